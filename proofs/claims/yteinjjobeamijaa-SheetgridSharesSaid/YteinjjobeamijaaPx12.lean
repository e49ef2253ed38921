-- Written by wip/tools/xprint.py (this session's program, over the kit's print.py) for this seat.
import Derived.Test.YteinjjobeamijaaPx0
import Derived.Test.YteinjjobeamijaaPx2
import Derived.Test.YteinjjobeamijaaPx5
import Derived.Test.YteinjjobeamijaaPx6
namespace Go.Proofs.Yteinjjobeamijaa.P
open Go.RowKit Go.Proofs.YteinjjobeamijaaW.PrintWords Go.Proofs.YteinjjobeamijaaW.PrintLast Go.Proofs.YteinjjobeamijaaW.PrintMore
attribute [local go_sem] max2_int min2_int max_two min_two max_three min_three max_four min_four   -- for this text's walks alone
set_option linter.unusedVariables false
set_option linter.unusedSimpArgs false

/-! ### mapsheetslaw40_SheetgridShares: function 8 -/
mutual
def mapsheetslaw40_SheetgridShares.j0 : Nat → Int → Int → Int → Bool → Int → Int → Int → Int → Int → Int → Int → Int → Int → Int → Int → Int → Int → Int → Option (Bool)
  | 0, _, _, _, _, _, _, _, _, _, _, _, _, _, _, _, _, _, _ => none
  | k + 1, x1, x2, x3, x37, x318000, x318001, x318002, x318003, x318004, x318005, x324000, x324001, x324002, x324003, x330000, x330001, x330002, x330003 => if x37 = true then ((mapsheetslaw40_awake.f k).bind fun t330 => (some t330)) else (if x1 = x2 then (mapsheetslaw40_SheetgridShares.j1 k x1 x3 false x318000 x318001 x318002 x318003 x318004 x318005 x324000 x324001 x324002 x324003) else (if (mx x324000 x330000) < (mn x324002 x330002) then (mapsheetslaw40_SheetgridShares.j1 k x1 x3 (decide ((mx x324001 x330001) < (mn x324003 x330003))) x318000 x318001 x318002 x318003 x318004 x318005 x324000 x324001 x324002 x324003) else (mapsheetslaw40_SheetgridShares.j1 k x1 x3 false x318000 x318001 x318002 x318003 x318004 x318005 x324000 x324001 x324002 x324003)))
def mapsheetslaw40_SheetgridShares.j1 : Nat → Int → Int → Bool → Int → Int → Int → Int → Int → Int → Int → Int → Int → Int → Option (Bool)
  | 0, _, _, _, _, _, _, _, _, _, _, _, _, _ => none
  | k + 1, x1, x3, x67, x318000, x318001, x318002, x318003, x318004, x318005, x324000, x324001, x324002, x324003 => if x67 = true then (none) else ((sheetgrid_Neighbor.f k x318000 x318001 x318002 x318003 x318004 x318005 x1 x3).bind fun bt331 => (if bt331.2 = true then ((sheetgrid_Box.f k x318000 x318001 x318002 x318003 x318004 x318005 bt331.1).bind fun bt333 => ((some (([3, 4, 1, 2] : List Int) : List Int)).bind fun y339 => (if 0 ≤ (Int.tmod (wrap64 (x3 + 3)) 4) then (if (Int.tmod (wrap64 (x3 + 3)) 4) < (y339.length : Int) then ((sheetgrid_Neighbor.f k x318000 x318001 x318002 x318003 x318004 x318005 bt331.1 (rd y339 (Int.tmod (wrap64 (x3 + 3)) 4))).bind fun bt343 => ((mapsheetslaw40_awake.f k).bind fun t346 => (if t346 = true then (if bt333.2.2.2.2 = 0 then (if bt343.2 = true then (if bt343.1 = x1 then (if (((wrap64 ((mn x324002 bt333.2.2.1) - (mx x324000 bt333.1))) == x318002) != ((wrap64 ((mn x324003 bt333.2.2.2.1) - (mx x324001 bt333.2.1))) == x318003)) = true then (if (mx x324000 bt333.1) = (mn x324002 bt333.2.2.1) then (some true) else (some ((mx x324001 bt333.2.1) == (mn x324003 bt333.2.2.2.1)))) else (none)) else (none)) else (none)) else (none)) else (none)))) else (none)) else (none)))) else ((mapsheetslaw40_awake.f k).bind fun t347 => (if t347 = true then (some (bt331.1 == 0)) else (none)))))
end
def mapsheetslaw40_SheetgridShares.f (k : Nat) (a0_0 : Int) (a0_1 : Int) (a0_2 : Int) (a0_3 : Int) (a0_4 : Int) (a0_5 : Int) (a1 : Int) (a2 : Int) (a3 : Int) : Option (Bool) := (sheetgrid_Box.f k a0_0 a0_1 a0_2 a0_3 a0_4 a0_5 a1).bind fun bt318 => ((sheetgrid_Box.f k a0_0 a0_1 a0_2 a0_3 a0_4 a0_5 a2).bind fun bt324 => (if bt318.2.2.2.2 = 0 then (mapsheetslaw40_SheetgridShares.j0 k a1 a2 a3 (bt324.2.2.2.2 != 0) a0_0 a0_1 a0_2 a0_3 a0_4 a0_5 bt318.1 bt318.2.1 bt318.2.2.1 bt318.2.2.2.1 bt324.1 bt324.2.1 bt324.2.2.1 bt324.2.2.2.1) else (mapsheetslaw40_SheetgridShares.j0 k a1 a2 a3 true a0_0 a0_1 a0_2 a0_3 a0_4 a0_5 bt318.1 bt318.2.1 bt318.2.2.1 bt318.2.2.2.1 bt324.1 bt324.2.1 bt324.2.2.1 bt324.2.2.2.1)))
theorem mapsheetslaw40_SheetgridShares.mono_l : ∀ k, (∀ y0 y1 y2 y3 y4 y5 y6 y7 y8 y9 y10 y11 y12 y13 y14 y15 y16 y17, LeO (mapsheetslaw40_SheetgridShares.j0 k y0 y1 y2 y3 y4 y5 y6 y7 y8 y9 y10 y11 y12 y13 y14 y15 y16 y17) (mapsheetslaw40_SheetgridShares.j0 (k + 1) y0 y1 y2 y3 y4 y5 y6 y7 y8 y9 y10 y11 y12 y13 y14 y15 y16 y17)) ∧ (∀ y0 y1 y2 y3 y4 y5 y6 y7 y8 y9 y10 y11 y12, LeO (mapsheetslaw40_SheetgridShares.j1 k y0 y1 y2 y3 y4 y5 y6 y7 y8 y9 y10 y11 y12) (mapsheetslaw40_SheetgridShares.j1 (k + 1) y0 y1 y2 y3 y4 y5 y6 y7 y8 y9 y10 y11 y12))
  | 0 => ⟨fun _ _ _ _ _ _ _ _ _ _ _ _ _ _ _ _ _ _ r h => by simp [mapsheetslaw40_SheetgridShares.j0] at h, fun _ _ _ _ _ _ _ _ _ _ _ _ _ r h => by simp [mapsheetslaw40_SheetgridShares.j1] at h⟩
  | k + 1 => by
    obtain ⟨ih0, ih1⟩ := mapsheetslaw40_SheetgridShares.mono_l k
    refine ⟨?_, ?_⟩
    · intro y0 y1 y2 y3 y4 y5 y6 y7 y8 y9 y10 y11 y12 y13 y14 y15 y16 y17
      unfold mapsheetslaw40_SheetgridShares.j0
      repeat' first
      | (with_reducible exact ih0 _ _ _ _ _ _ _ _ _ _ _ _ _ _ _ _ _ _)
      | (with_reducible exact ih1 _ _ _ _ _ _ _ _ _ _ _ _ _)
      | (with_reducible exact mapsheetslaw40_awake.mono _)
      | (with_reducible exact sheetgrid_Box.mono _ _ _ _ _ _ _ _)
      | (with_reducible exact sheetgrid_Neighbor.mono _ _ _ _ _ _ _ _ _)
      | (with_reducible exact LeO.refl _)
      | (with_reducible exact LeO.none _)
      | (with_reducible refine LeO.ite ?_ ?_)
      | (with_reducible refine LeO.bind ?_ (fun _ => ?_))
      | exact ih0 _ _ _ _ _ _ _ _ _ _ _ _ _ _ _ _ _ _
      | exact ih1 _ _ _ _ _ _ _ _ _ _ _ _ _
      | exact mapsheetslaw40_awake.mono _
      | exact sheetgrid_Box.mono _ _ _ _ _ _ _ _
      | exact sheetgrid_Neighbor.mono _ _ _ _ _ _ _ _ _
      | exact LeO.none _
      | refine LeO.ite ?_ ?_
      | refine LeO.bind ?_ (fun _ => ?_)
    · intro y0 y1 y2 y3 y4 y5 y6 y7 y8 y9 y10 y11 y12
      unfold mapsheetslaw40_SheetgridShares.j1
      repeat' first
      | (with_reducible exact ih0 _ _ _ _ _ _ _ _ _ _ _ _ _ _ _ _ _ _)
      | (with_reducible exact ih1 _ _ _ _ _ _ _ _ _ _ _ _ _)
      | (with_reducible exact mapsheetslaw40_awake.mono _)
      | (with_reducible exact sheetgrid_Box.mono _ _ _ _ _ _ _ _)
      | (with_reducible exact sheetgrid_Neighbor.mono _ _ _ _ _ _ _ _ _)
      | (with_reducible exact LeO.refl _)
      | (with_reducible exact LeO.none _)
      | (with_reducible refine LeO.ite ?_ ?_)
      | (with_reducible refine LeO.bind ?_ (fun _ => ?_))
      | exact ih0 _ _ _ _ _ _ _ _ _ _ _ _ _ _ _ _ _ _
      | exact ih1 _ _ _ _ _ _ _ _ _ _ _ _ _
      | exact mapsheetslaw40_awake.mono _
      | exact sheetgrid_Box.mono _ _ _ _ _ _ _ _
      | exact sheetgrid_Neighbor.mono _ _ _ _ _ _ _ _ _
      | exact LeO.none _
      | refine LeO.ite ?_ ?_
      | refine LeO.bind ?_ (fun _ => ?_)
theorem mapsheetslaw40_SheetgridShares.mono : ∀ a0 a1 a2 a3 a4 a5 a6 a7 a8 k, LeO (mapsheetslaw40_SheetgridShares.f k a0 a1 a2 a3 a4 a5 a6 a7 a8) (mapsheetslaw40_SheetgridShares.f (k + 1) a0 a1 a2 a3 a4 a5 a6 a7 a8) := by
  intro a0 a1 a2 a3 a4 a5 a6 a7 a8 k
  obtain ⟨ih0, ih1⟩ := mapsheetslaw40_SheetgridShares.mono_l k
  unfold mapsheetslaw40_SheetgridShares.f
  repeat' first
      | (with_reducible exact ih0 _ _ _ _ _ _ _ _ _ _ _ _ _ _ _ _ _ _)
      | (with_reducible exact ih1 _ _ _ _ _ _ _ _ _ _ _ _ _)
      | (with_reducible exact mapsheetslaw40_awake.mono _)
      | (with_reducible exact sheetgrid_Box.mono _ _ _ _ _ _ _ _)
      | (with_reducible exact sheetgrid_Neighbor.mono _ _ _ _ _ _ _ _ _)
      | (with_reducible exact LeO.refl _)
      | (with_reducible exact LeO.none _)
      | (with_reducible refine LeO.ite ?_ ?_)
      | (with_reducible refine LeO.bind ?_ (fun _ => ?_))
      | exact ih0 _ _ _ _ _ _ _ _ _ _ _ _ _ _ _ _ _ _
      | exact ih1 _ _ _ _ _ _ _ _ _ _ _ _ _
      | exact mapsheetslaw40_awake.mono _
      | exact sheetgrid_Box.mono _ _ _ _ _ _ _ _
      | exact sheetgrid_Neighbor.mono _ _ _ _ _ _ _ _ _
      | exact LeO.none _
      | refine LeO.ite ?_ ?_
      | refine LeO.bind ?_ (fun _ => ?_)
def mapsheetslaw40_SheetgridShares.T11 : Bool × List (List Nat × List Nat) := (true, [([], []), ([], []), ([], []), ([], []), ([3], [3]), ([4], [4]), ([2, 5], [2, 5]), ([6], [6]), ([0, 1, 7], [0, 1, 7]), ([8], [8]), ([9], [9]), ([9], [9]), ([10, 8, 0, 1, 2, 3, 4, 5, 6, 7, 8, 9, 10], [10]), ([11, 12, 0, 1, 2, 3, 4, 5, 6, 7, 8, 9, 10, 11, 12], [11])])
def mapsheetslaw40_SheetgridShares.B11 : List Nat := [0, 0, 0, 0, 8, 24, 60, 124, 255, 511, 1023, 1023, 2047, 8191]
theorem mapsheetslaw40_SheetgridShares.tab11 : rtab .any (opsOf Try.f8 11) = mapsheetslaw40_SheetgridShares.T11 := by kernel_rfl
theorem mapsheetslaw40_SheetgridShares.bits11 : waitsOk mapsheetslaw40_SheetgridShares.T11.2 mapsheetslaw40_SheetgridShares.B11 = true := by kernel_rfl
set_option maxHeartbeats 8000000 in
set_option maxRecDepth 100000 in
theorem mapsheetslaw40_SheetgridShares.calls (k : Nat) (a0_0 : Int) (a0_1 : Int) (a0_2 : Int) (a0_3 : Int) (a0_4 : Int) (a0_5 : Int) (a1 : Int) (a2 : Int) (a3 : Int) (r : Bool) (w : World) (h : mapsheetslaw40_SheetgridShares.f k a0_0 a0_1 a0_2 a0_3 a0_4 a0_5 a1 a2 a3 = some r) :
    Calls Try.prog 8 #[.agg #[.int .i64 a0_0, .int .i64 a0_1, .int .i64 a0_2, .int .i64 a0_3, .int .i64 a0_4, .int .i64 a0_5], .int .i64 a1, .int .i64 a2, .int .i64 a3] w fun e w' => e = .returned (.bool r) ∧ Below w.heap.size w w' := by
  have hu25 := Try.underlying25
  have hu27 := Try.underlying27
  have HB := Aside0.mk (Below.refl w.heap.size w)
  have H : ((sheetgrid_Box.f k a0_0 a0_1 a0_2 a0_3 a0_4 a0_5 a1).bind fun bt318 => ((sheetgrid_Box.f k a0_0 a0_1 a0_2 a0_3 a0_4 a0_5 a2).bind fun bt324 => (if bt318.2.2.2.2 = 0 then (mapsheetslaw40_SheetgridShares.j0 k a1 a2 a3 (bt324.2.2.2.2 != 0) a0_0 a0_1 a0_2 a0_3 a0_4 a0_5 bt318.1 bt318.2.1 bt318.2.2.1 bt318.2.2.2.1 bt324.1 bt324.2.1 bt324.2.2.1 bt324.2.2.2.1) else (mapsheetslaw40_SheetgridShares.j0 k a1 a2 a3 true a0_0 a0_1 a0_2 a0_3 a0_4 a0_5 bt318.1 bt318.2.1 bt318.2.2.1 bt318.2.2.2.1 bt324.1 bt324.2.1 bt324.2.2.1 bt324.2.2.2.1)))) = some r := h
  clear h
  replace H := Option.bind_eq_some_iff.mp H
  obtain ⟨⟨t318, t319, t320, t321, t322⟩, A50, H⟩ := H
  replace H : ((sheetgrid_Box.f k a0_0 a0_1 a0_2 a0_3 a0_4 a0_5 a2).bind fun bt324 => (if t322 = 0 then (mapsheetslaw40_SheetgridShares.j0 k a1 a2 a3 (bt324.2.2.2.2 != 0) a0_0 a0_1 a0_2 a0_3 a0_4 a0_5 t318 t319 t320 t321 bt324.1 bt324.2.1 bt324.2.2.1 bt324.2.2.2.1) else (mapsheetslaw40_SheetgridShares.j0 k a1 a2 a3 true a0_0 a0_1 a0_2 a0_3 a0_4 a0_5 t318 t319 t320 t321 bt324.1 bt324.2.1 bt324.2.2.1 bt324.2.2.2.1))) = some r := H
  have A5 := Aside0.mk A50
  clear A50
  replace H := Option.bind_eq_some_iff.mp H
  obtain ⟨⟨t324, t325, t326, t327, t328⟩, A60, H⟩ := H
  replace H : (if t322 = 0 then (mapsheetslaw40_SheetgridShares.j0 k a1 a2 a3 (t328 != 0) a0_0 a0_1 a0_2 a0_3 a0_4 a0_5 t318 t319 t320 t321 t324 t325 t326 t327) else (mapsheetslaw40_SheetgridShares.j0 k a1 a2 a3 true a0_0 a0_1 a0_2 a0_3 a0_4 a0_5 t318 t319 t320 t321 t324 t325 t326 t327)) = some r := H
  have A6 := Aside0.mk A60
  clear A60
  have HC7 := Aside0.mk H
  clear H
  go_enter Try.func8, Try.ntmps8
  go_upto_region 3 with (first | ((with_reducible refine gate_dst (N := 4) rfl ?_); (try (refine gate_guard (by rfl) ?_; dsimp only)); refine box_event ?hg (N := 4) ?hd (cs := #[.int .i64 a0_0, .int .i64 a0_1, .int .i64 a0_2, .int .i64 a0_3, .int .i64 a0_4, .int .i64 a0_5]) (t := 25) ?hr ?_; (case hd => rfl); (case hg => rfl); (case hr => first | (go_simp; done) | (go_simp; rfl)); intro gb317 hg w8 hbox hb; have n0_ := Aside0.mk (below_step (by repeat (first | (with_reducible first | exact HB.out | apply below_alloc | apply pw_below_drewN | apply below_drew1) | exact HB.out)) hb); have n1_ := Aside0.mk (hbox); have n2_ := Aside0.mk ((by rw [hg]; exact (below_size (by repeat (first | (with_reducible first | exact HB.out | apply below_alloc | apply pw_below_drewN | apply below_drew1) | exact HB.out))) : w.heap.size ≤ gb317)); have n3_ := Aside0.mk ((by rw [hg]; exact (below_size (by repeat (first | (with_reducible first | exact HB.out | apply below_alloc | apply pw_below_drewN | apply below_drew1) | exact HB.out))) : w.heap.size ≤ gb317)); clear HB; have HB := n0_; have BK317 := n1_; have GW317 := n2_; have GE317 := n3_; clear n0_ n1_ n2_ n3_; clear hb hbox hg; have hcz9_0 : w8.cell? ⟨gb317, 0, none⟩ = some (.int .i64 a0_0) := (blk_cell BK317.out 0).trans rfl; have hcz9_1 : w8.cell? ⟨gb317, 1, none⟩ = some (.int .i64 a0_1) := (blk_cell BK317.out 1).trans rfl; have hcz9_2 : w8.cell? ⟨gb317, 2, none⟩ = some (.int .i64 a0_2) := (blk_cell BK317.out 2).trans rfl; have hcz9_3 : w8.cell? ⟨gb317, 3, none⟩ = some (.int .i64 a0_3) := (blk_cell BK317.out 3).trans rfl; have hcz9_4 : w8.cell? ⟨gb317, 4, none⟩ = some (.int .i64 a0_4) := (blk_cell BK317.out 4).trans rfl; have hcz9_5 : w8.cell? ⟨gb317, 5, none⟩ = some (.int .i64 a0_5) := (blk_cell BK317.out 5).trans rfl; have hfz9_0 := blk_frozen BK317.out 0; have hfz9_1 := blk_frozen BK317.out 1; have hfz9_2 := blk_frozen BK317.out 2; have hfz9_3 := blk_frozen BK317.out 3; have hfz9_4 := blk_frozen BK317.out 4; have hfz9_5 := blk_frozen BK317.out 5) | ((with_reducible refine gate_callee (f := 10) rfl ?_); refine goesL_ (some 23) rfl rfl Try.func10 (by kernel_rfl) rfl #[.agg #[.int .i64 a0_0, .int .i64 a0_1, .int .i64 a0_2, .int .i64 a0_3, .int .i64 a0_4, .int .i64 a0_5], .int .i64 a1] rfl (by (try simp only [List.map_toArray, List.map_cons, List.map_nil]); first | done | rfl | (simp only [List.length_drop, List.length_take]; rfl)) ?_; (with_reducible refine (sheetgrid_Box.calls k a0_0 a0_1 a0_2 a0_3 a0_4 a0_5 a1 t318 t319 t320 t321 t322 _ A5.out).mono ?_); rintro e w10 ⟨rfl, hb⟩; refine ⟨_, rfl, ?_⟩; have n0_ := Aside0.mk (blk_below (g := gb317) (o := .cells #[.int .i64 a0_0, .int .i64 a0_1, .int .i64 a0_2, .int .i64 a0_3, .int .i64 a0_4, .int .i64 a0_5] 25 (0, 0)) (by (with_reducible repeat (first | refine blk_drewN ?_ _ | refine blk_drew ?_ | refine blk_alloc ?_ _)); exact BK317.out) hb); have n1_ := Aside0.mk (below_step (by repeat (first | (with_reducible first | exact HB.out | apply below_alloc | apply pw_below_drewN | apply below_drew1 | refine below_set ?_ GE317.out) | exact HB.out)) hb); clear BK317; clear HB; have BK317 := n0_; have HB := n1_; clear n0_ n1_; (try clear hb); (try clear hb2); (try clear hk); (try clear hi)) | ((with_reducible refine gate_dst (N := 9) rfl ?_); (try (refine gate_guard (by rfl) ?_; dsimp only)); refine box_event ?hg (N := 9) ?hd (cs := #[.int .i64 0, .int .i64 0, .int .i64 0, .int .i64 0]) (t := 27) ?hr ?_; (case hd => rfl); (case hg => rfl); (case hr => first | (go_simp; done) | (go_simp; rfl)); intro gb323 hg w11 hbox hb; have n0_ := Aside0.mk (blk_below (g := gb317) (o := .cells #[.int .i64 a0_0, .int .i64 a0_1, .int .i64 a0_2, .int .i64 a0_3, .int .i64 a0_4, .int .i64 a0_5] 25 (0, 0)) (by (with_reducible repeat (first | refine blk_drewN ?_ _ | refine blk_drew ?_ | refine blk_alloc ?_ _)); exact BK317.out) hb); have n1_ := Aside0.mk (below_step (by repeat (first | (with_reducible first | exact HB.out | apply below_alloc | apply pw_below_drewN | apply below_drew1 | refine below_set ?_ GE317.out) | exact HB.out)) hb); have n2_ := Aside0.mk (hbox); have n3_ := Aside0.mk ((by rw [hg]; exact (below_size (by repeat (first | (with_reducible first | exact HB.out | apply below_alloc | apply pw_below_drewN | apply below_drew1 | refine below_set ?_ GE317.out) | exact HB.out))) : w.heap.size ≤ gb323)); have n4_ := Aside0.mk ((by rw [hg]; exact (below_size (by repeat (first | (with_reducible first | exact HB.out | apply below_alloc | apply pw_below_drewN | apply below_drew1 | refine below_set ?_ GE317.out) | exact HB.out))) : w.heap.size ≤ gb323)); have n5_ := Aside0.mk ((by rw [hg]; exact Nat.ne_of_lt (blk_lt (g := gb317) (o := .cells #[.int .i64 a0_0, .int .i64 a0_1, .int .i64 a0_2, .int .i64 a0_3, .int .i64 a0_4, .int .i64 a0_5] 25 (0, 0)) (by (with_reducible repeat (first | refine blk_drewN ?_ _ | refine blk_drew ?_ | refine blk_alloc ?_ _)); exact BK317.out)) : gb317 ≠ gb323)); have n6_ := Aside0.mk ((by rw [hg]; exact Nat.ne_of_gt (blk_lt (g := gb317) (o := .cells #[.int .i64 a0_0, .int .i64 a0_1, .int .i64 a0_2, .int .i64 a0_3, .int .i64 a0_4, .int .i64 a0_5] 25 (0, 0)) (by (with_reducible repeat (first | refine blk_drewN ?_ _ | refine blk_drew ?_ | refine blk_alloc ?_ _)); exact BK317.out)) : gb323 ≠ gb317)); clear BK317; clear HB; have BK317 := n0_; have HB := n1_; have BK323 := n2_; have GW323 := n3_; have GE323 := n4_; have NB317_323 := n5_; have NB323_317 := n6_; clear n0_ n1_ n2_ n3_ n4_ n5_ n6_; clear hb hbox hg; have hnb12 := NB323_317.out; have hnc12 := NB317_323.out; have hcz13_0 : w11.cell? ⟨gb323, 0, none⟩ = some (.int .i64 0) := (blk_cell BK323.out 0).trans rfl; have hcz13_1 : w11.cell? ⟨gb323, 1, none⟩ = some (.int .i64 0) := (blk_cell BK323.out 1).trans rfl; have hcz13_2 : w11.cell? ⟨gb323, 2, none⟩ = some (.int .i64 0) := (blk_cell BK323.out 2).trans rfl; have hcz13_3 : w11.cell? ⟨gb323, 3, none⟩ = some (.int .i64 0) := (blk_cell BK323.out 3).trans rfl; have hfz13_0 := blk_frozen BK323.out 0; have hfz13_1 := blk_frozen BK323.out 1; have hfz13_2 := blk_frozen BK323.out 2; have hfz13_3 := blk_frozen BK323.out 3; have hcz14_0 : w11.cell? ⟨gb317, 0, none⟩ = some (.int .i64 a0_0) := (blk_cell BK317.out 0).trans rfl; have hcz14_1 : w11.cell? ⟨gb317, 1, none⟩ = some (.int .i64 a0_1) := (blk_cell BK317.out 1).trans rfl; have hcz14_2 : w11.cell? ⟨gb317, 2, none⟩ = some (.int .i64 a0_2) := (blk_cell BK317.out 2).trans rfl; have hcz14_3 : w11.cell? ⟨gb317, 3, none⟩ = some (.int .i64 a0_3) := (blk_cell BK317.out 3).trans rfl; have hcz14_4 : w11.cell? ⟨gb317, 4, none⟩ = some (.int .i64 a0_4) := (blk_cell BK317.out 4).trans rfl; have hcz14_5 : w11.cell? ⟨gb317, 5, none⟩ = some (.int .i64 a0_5) := (blk_cell BK317.out 5).trans rfl; have hfz14_0 := blk_frozen BK317.out 0; have hfz14_1 := blk_frozen BK317.out 1; have hfz14_2 := blk_frozen BK317.out 2; have hfz14_3 := blk_frozen BK317.out 3; have hfz14_4 := blk_frozen BK317.out 4; have hfz14_5 := blk_frozen BK317.out 5) | ((with_reducible refine gate_callee (f := 10) rfl ?_); refine goesL_ (some 29) rfl rfl Try.func10 (by kernel_rfl) rfl #[.agg #[.int .i64 a0_0, .int .i64 a0_1, .int .i64 a0_2, .int .i64 a0_3, .int .i64 a0_4, .int .i64 a0_5], .int .i64 a2] rfl (by (try simp only [List.map_toArray, List.map_cons, List.map_nil]); first | done | rfl | (simp only [List.length_drop, List.length_take]; rfl)) ?_; (with_reducible refine (sheetgrid_Box.calls k a0_0 a0_1 a0_2 a0_3 a0_4 a0_5 a2 t324 t325 t326 t327 t328 _ A6.out).mono ?_); rintro e w15 ⟨rfl, hb⟩; refine ⟨_, rfl, ?_⟩; have n0_ := Aside0.mk (blk_below (g := gb317) (o := .cells #[.int .i64 a0_0, .int .i64 a0_1, .int .i64 a0_2, .int .i64 a0_3, .int .i64 a0_4, .int .i64 a0_5] 25 (0, 0)) (by (with_reducible repeat (first | refine blk_drewN ?_ _ | refine blk_drew ?_ | refine blk_alloc ?_ _)); refine blk_far ?_ NB317_323.out _; (with_reducible repeat (first | refine blk_drewN ?_ _ | refine blk_drew ?_ | refine blk_alloc ?_ _)); refine blk_far ?_ NB317_323.out _; (with_reducible repeat (first | refine blk_drewN ?_ _ | refine blk_drew ?_ | refine blk_alloc ?_ _)); refine blk_far ?_ NB317_323.out _; (with_reducible repeat (first | refine blk_drewN ?_ _ | refine blk_drew ?_ | refine blk_alloc ?_ _)); refine blk_far ?_ NB317_323.out _; (with_reducible repeat (first | refine blk_drewN ?_ _ | refine blk_drew ?_ | refine blk_alloc ?_ _)); exact BK317.out) hb); have n1_ := Aside0.mk (blk_below (g := gb323) (o := .cells #[.int .i64 t318, .int .i64 t319, .int .i64 t320, .int .i64 t321] 27 (0, 0)) (by (with_reducible repeat (first | refine blk_drewN ?_ _ | refine blk_drew ?_ | refine blk_alloc ?_ _)); refine blk_put (cs := #[.int .i64 t318, .int .i64 t319, .int .i64 t320, .int .i64 0]) ?_ 3 _ rfl; (with_reducible repeat (first | refine blk_drewN ?_ _ | refine blk_drew ?_ | refine blk_alloc ?_ _)); refine blk_put (cs := #[.int .i64 t318, .int .i64 t319, .int .i64 0, .int .i64 0]) ?_ 2 _ rfl; (with_reducible repeat (first | refine blk_drewN ?_ _ | refine blk_drew ?_ | refine blk_alloc ?_ _)); refine blk_put (cs := #[.int .i64 t318, .int .i64 0, .int .i64 0, .int .i64 0]) ?_ 1 _ rfl; (with_reducible repeat (first | refine blk_drewN ?_ _ | refine blk_drew ?_ | refine blk_alloc ?_ _)); refine blk_put (cs := #[.int .i64 0, .int .i64 0, .int .i64 0, .int .i64 0]) ?_ 0 _ rfl; (with_reducible repeat (first | refine blk_drewN ?_ _ | refine blk_drew ?_ | refine blk_alloc ?_ _)); exact BK323.out) hb); have n2_ := Aside0.mk (below_step (by repeat (first | (with_reducible first | exact HB.out | apply below_alloc | apply pw_below_drewN | apply below_drew1 | refine below_set ?_ GE317.out | refine below_set ?_ GE323.out) | exact HB.out)) hb); clear BK317; clear BK323; clear HB; have BK317 := n0_; have BK323 := n1_; have HB := n2_; clear n0_ n1_ n2_; (try clear hb); (try clear hb2); (try clear hk); (try clear hi)) | ((with_reducible refine gate_dst (N := 11) rfl ?_); (try (refine gate_guard (by rfl) ?_; dsimp only)); refine box_event ?hg (N := 11) ?hd (cs := #[.int .i64 0, .int .i64 0, .int .i64 0, .int .i64 0]) (t := 27) ?hr ?_; (case hd => rfl); (case hg => rfl); (case hr => first | (go_simp; done) | (go_simp; rfl)); intro gb329 hg w16 hbox hb; have n0_ := Aside0.mk (blk_below (g := gb317) (o := .cells #[.int .i64 a0_0, .int .i64 a0_1, .int .i64 a0_2, .int .i64 a0_3, .int .i64 a0_4, .int .i64 a0_5] 25 (0, 0)) (by (with_reducible repeat (first | refine blk_drewN ?_ _ | refine blk_drew ?_ | refine blk_alloc ?_ _)); exact BK317.out) hb); have n1_ := Aside0.mk (blk_below (g := gb323) (o := .cells #[.int .i64 t318, .int .i64 t319, .int .i64 t320, .int .i64 t321] 27 (0, 0)) (by (with_reducible repeat (first | refine blk_drewN ?_ _ | refine blk_drew ?_ | refine blk_alloc ?_ _)); exact BK323.out) hb); have n2_ := Aside0.mk (below_step (by repeat (first | (with_reducible first | exact HB.out | apply below_alloc | apply pw_below_drewN | apply below_drew1 | refine below_set ?_ GE317.out | refine below_set ?_ GE323.out) | exact HB.out)) hb); have n3_ := Aside0.mk (hbox); have n4_ := Aside0.mk ((by rw [hg]; exact (below_size (by repeat (first | (with_reducible first | exact HB.out | apply below_alloc | apply pw_below_drewN | apply below_drew1 | refine below_set ?_ GE317.out | refine below_set ?_ GE323.out) | exact HB.out))) : w.heap.size ≤ gb329)); have n5_ := Aside0.mk ((by rw [hg]; exact (below_size (by repeat (first | (with_reducible first | exact HB.out | apply below_alloc | apply pw_below_drewN | apply below_drew1 | refine below_set ?_ GE317.out | refine below_set ?_ GE323.out) | exact HB.out))) : w.heap.size ≤ gb329)); have n6_ := Aside0.mk ((by rw [hg]; exact Nat.ne_of_lt (blk_lt (g := gb317) (o := .cells #[.int .i64 a0_0, .int .i64 a0_1, .int .i64 a0_2, .int .i64 a0_3, .int .i64 a0_4, .int .i64 a0_5] 25 (0, 0)) (by (with_reducible repeat (first | refine blk_drewN ?_ _ | refine blk_drew ?_ | refine blk_alloc ?_ _)); exact BK317.out)) : gb317 ≠ gb329)); have n7_ := Aside0.mk ((by rw [hg]; exact Nat.ne_of_gt (blk_lt (g := gb317) (o := .cells #[.int .i64 a0_0, .int .i64 a0_1, .int .i64 a0_2, .int .i64 a0_3, .int .i64 a0_4, .int .i64 a0_5] 25 (0, 0)) (by (with_reducible repeat (first | refine blk_drewN ?_ _ | refine blk_drew ?_ | refine blk_alloc ?_ _)); exact BK317.out)) : gb329 ≠ gb317)); have n8_ := Aside0.mk ((by rw [hg]; exact Nat.ne_of_lt (blk_lt (g := gb323) (o := .cells #[.int .i64 t318, .int .i64 t319, .int .i64 t320, .int .i64 t321] 27 (0, 0)) (by (with_reducible repeat (first | refine blk_drewN ?_ _ | refine blk_drew ?_ | refine blk_alloc ?_ _)); exact BK323.out)) : gb323 ≠ gb329)); have n9_ := Aside0.mk ((by rw [hg]; exact Nat.ne_of_gt (blk_lt (g := gb323) (o := .cells #[.int .i64 t318, .int .i64 t319, .int .i64 t320, .int .i64 t321] 27 (0, 0)) (by (with_reducible repeat (first | refine blk_drewN ?_ _ | refine blk_drew ?_ | refine blk_alloc ?_ _)); exact BK323.out)) : gb329 ≠ gb323)); clear BK317; clear BK323; clear HB; have BK317 := n0_; have BK323 := n1_; have HB := n2_; have BK329 := n3_; have GW329 := n4_; have GE329 := n5_; have NB317_329 := n6_; have NB329_317 := n7_; have NB323_329 := n8_; have NB329_323 := n9_; clear n0_ n1_ n2_ n3_ n4_ n5_ n6_ n7_ n8_ n9_; clear hb hbox hg; have hnb17 := NB329_317.out; have hnc17 := NB317_329.out; have hnb18 := NB329_323.out; have hnc18 := NB323_329.out; have hcz19_0 : w16.cell? ⟨gb329, 0, none⟩ = some (.int .i64 0) := (blk_cell BK329.out 0).trans rfl; have hcz19_1 : w16.cell? ⟨gb329, 1, none⟩ = some (.int .i64 0) := (blk_cell BK329.out 1).trans rfl; have hcz19_2 : w16.cell? ⟨gb329, 2, none⟩ = some (.int .i64 0) := (blk_cell BK329.out 2).trans rfl; have hcz19_3 : w16.cell? ⟨gb329, 3, none⟩ = some (.int .i64 0) := (blk_cell BK329.out 3).trans rfl; have hfz19_0 := blk_frozen BK329.out 0; have hfz19_1 := blk_frozen BK329.out 1; have hfz19_2 := blk_frozen BK329.out 2; have hfz19_3 := blk_frozen BK329.out 3))
  (try simp only [Act.put, List.setIfInBounds_toArray, List.set_cons_zero, List.set_cons_succ])
  go_cut [37] (fun v37 wc => ∃ (kq : Nat) (x37_6 : Bool), v37 = .bool x37_6 ∧ Aside0 (mapsheetslaw40_SheetgridShares.j0 kq a1 a2 a3 x37_6 a0_0 a0_1 a0_2 a0_3 a0_4 a0_5 t318 t319 t320 t321 t324 t325 t326 t327 = some r) ∧ Aside0 (kq ≤ k) ∧ Aside0 (wc.heap[gb317]? = some (.cells #[.int .i64 a0_0, .int .i64 a0_1, .int .i64 a0_2, .int .i64 a0_3, .int .i64 a0_4, .int .i64 a0_5] 25 (0, 0))) ∧ Aside0 (wc.heap[gb323]? = some (.cells #[.int .i64 t318, .int .i64 t319, .int .i64 t320, .int .i64 t321] 27 (0, 0))) ∧ Aside0 (wc.heap[gb329]? = some (.cells #[.int .i64 t324, .int .i64 t325, .int .i64 t326, .int .i64 t327] 27 (0, 0))) ∧ Aside0 (Below w.heap.size w wc))
  case first =>
    have H := HC7.out
    clear HC7
    by_cases c20 : t322 = 0
    · rw [if_pos c20] at H
      have c20b0 : (t322 == 0) = true := beq_iff_eq.mpr c20
      have c20b1 : (t322 != 0) = false := bne_eq_false_iff_eq.mpr c20
      clear c20
      (first | rw [c20b0] | (simp only [i64_w, i32_w]; rw [c20b0]) | skip)
      have H' := Aside0.mk H
      clear H
      go_wp2
      go_meet
      case rel => exact ⟨_, ((t328 != 0)), (by first | rfl | (simp; done) | (simp [*]; done)), H', ⟨by first | omega | exact Nat.le_refl _⟩, ⟨by (with_reducible repeat (first | refine blk_drewN ?_ _ | refine blk_drew ?_ | refine blk_alloc ?_ _)); refine blk_far ?_ NB317_329.out _; (with_reducible repeat (first | refine blk_drewN ?_ _ | refine blk_drew ?_ | refine blk_alloc ?_ _)); refine blk_far ?_ NB317_329.out _; (with_reducible repeat (first | refine blk_drewN ?_ _ | refine blk_drew ?_ | refine blk_alloc ?_ _)); refine blk_far ?_ NB317_329.out _; (with_reducible repeat (first | refine blk_drewN ?_ _ | refine blk_drew ?_ | refine blk_alloc ?_ _)); refine blk_far ?_ NB317_329.out _; (with_reducible repeat (first | refine blk_drewN ?_ _ | refine blk_drew ?_ | refine blk_alloc ?_ _)); exact BK317.out⟩, ⟨by (with_reducible repeat (first | refine blk_drewN ?_ _ | refine blk_drew ?_ | refine blk_alloc ?_ _)); refine blk_far ?_ NB323_329.out _; (with_reducible repeat (first | refine blk_drewN ?_ _ | refine blk_drew ?_ | refine blk_alloc ?_ _)); refine blk_far ?_ NB323_329.out _; (with_reducible repeat (first | refine blk_drewN ?_ _ | refine blk_drew ?_ | refine blk_alloc ?_ _)); refine blk_far ?_ NB323_329.out _; (with_reducible repeat (first | refine blk_drewN ?_ _ | refine blk_drew ?_ | refine blk_alloc ?_ _)); refine blk_far ?_ NB323_329.out _; (with_reducible repeat (first | refine blk_drewN ?_ _ | refine blk_drew ?_ | refine blk_alloc ?_ _)); exact BK323.out⟩, ⟨by (with_reducible repeat (first | refine blk_drewN ?_ _ | refine blk_drew ?_ | refine blk_alloc ?_ _)); refine blk_put (cs := #[.int .i64 t324, .int .i64 t325, .int .i64 t326, .int .i64 0]) ?_ 3 _ rfl; (with_reducible repeat (first | refine blk_drewN ?_ _ | refine blk_drew ?_ | refine blk_alloc ?_ _)); refine blk_put (cs := #[.int .i64 t324, .int .i64 t325, .int .i64 0, .int .i64 0]) ?_ 2 _ rfl; (with_reducible repeat (first | refine blk_drewN ?_ _ | refine blk_drew ?_ | refine blk_alloc ?_ _)); refine blk_put (cs := #[.int .i64 t324, .int .i64 0, .int .i64 0, .int .i64 0]) ?_ 1 _ rfl; (with_reducible repeat (first | refine blk_drewN ?_ _ | refine blk_drew ?_ | refine blk_alloc ?_ _)); refine blk_put (cs := #[.int .i64 0, .int .i64 0, .int .i64 0, .int .i64 0]) ?_ 0 _ rfl; (with_reducible repeat (first | refine blk_drewN ?_ _ | refine blk_drew ?_ | refine blk_alloc ?_ _)); exact BK329.out⟩, ⟨by repeat (first | (with_reducible first | exact HB.out | apply below_alloc | apply pw_below_drewN | apply below_drew1 | refine below_set ?_ GE317.out | refine below_set ?_ GE323.out | refine below_set ?_ GE329.out) | exact HB.out)⟩⟩
    · rw [if_neg c20] at H
      have c20b0 : (t322 == 0) = false := beq_eq_false_iff_ne.mpr c20
      have c20b1 : (t322 != 0) = true := bne_iff_ne.mpr c20
      (first | rw [c20b0] | (simp only [i64_w, i32_w]; rw [c20b0]) | skip)
      have H' := Aside0.mk H
      clear H
      go_wp2
      go_meet
      case rel => exact ⟨_, (true), (by first | rfl | (simp; done) | (simp [*]; done)), H', ⟨by first | omega | exact Nat.le_refl _⟩, ⟨by (with_reducible repeat (first | refine blk_drewN ?_ _ | refine blk_drew ?_ | refine blk_alloc ?_ _)); refine blk_far ?_ NB317_329.out _; (with_reducible repeat (first | refine blk_drewN ?_ _ | refine blk_drew ?_ | refine blk_alloc ?_ _)); refine blk_far ?_ NB317_329.out _; (with_reducible repeat (first | refine blk_drewN ?_ _ | refine blk_drew ?_ | refine blk_alloc ?_ _)); refine blk_far ?_ NB317_329.out _; (with_reducible repeat (first | refine blk_drewN ?_ _ | refine blk_drew ?_ | refine blk_alloc ?_ _)); refine blk_far ?_ NB317_329.out _; (with_reducible repeat (first | refine blk_drewN ?_ _ | refine blk_drew ?_ | refine blk_alloc ?_ _)); exact BK317.out⟩, ⟨by (with_reducible repeat (first | refine blk_drewN ?_ _ | refine blk_drew ?_ | refine blk_alloc ?_ _)); refine blk_far ?_ NB323_329.out _; (with_reducible repeat (first | refine blk_drewN ?_ _ | refine blk_drew ?_ | refine blk_alloc ?_ _)); refine blk_far ?_ NB323_329.out _; (with_reducible repeat (first | refine blk_drewN ?_ _ | refine blk_drew ?_ | refine blk_alloc ?_ _)); refine blk_far ?_ NB323_329.out _; (with_reducible repeat (first | refine blk_drewN ?_ _ | refine blk_drew ?_ | refine blk_alloc ?_ _)); refine blk_far ?_ NB323_329.out _; (with_reducible repeat (first | refine blk_drewN ?_ _ | refine blk_drew ?_ | refine blk_alloc ?_ _)); exact BK323.out⟩, ⟨by (with_reducible repeat (first | refine blk_drewN ?_ _ | refine blk_drew ?_ | refine blk_alloc ?_ _)); refine blk_put (cs := #[.int .i64 t324, .int .i64 t325, .int .i64 t326, .int .i64 0]) ?_ 3 _ rfl; (with_reducible repeat (first | refine blk_drewN ?_ _ | refine blk_drew ?_ | refine blk_alloc ?_ _)); refine blk_put (cs := #[.int .i64 t324, .int .i64 t325, .int .i64 0, .int .i64 0]) ?_ 2 _ rfl; (with_reducible repeat (first | refine blk_drewN ?_ _ | refine blk_drew ?_ | refine blk_alloc ?_ _)); refine blk_put (cs := #[.int .i64 t324, .int .i64 0, .int .i64 0, .int .i64 0]) ?_ 1 _ rfl; (with_reducible repeat (first | refine blk_drewN ?_ _ | refine blk_drew ?_ | refine blk_alloc ?_ _)); refine blk_put (cs := #[.int .i64 0, .int .i64 0, .int .i64 0, .int .i64 0]) ?_ 0 _ rfl; (with_reducible repeat (first | refine blk_drewN ?_ _ | refine blk_drew ?_ | refine blk_alloc ?_ _)); exact BK329.out⟩, ⟨by repeat (first | (with_reducible first | exact HB.out | apply below_alloc | apply pw_below_drewN | apply below_drew1 | refine below_set ?_ GE317.out | refine below_set ?_ GE323.out | refine below_set ?_ GE329.out) | exact HB.out)⟩⟩
  case rest =>
    clear HC7
    try clear c1
    try clear c2
    try clear p2
    try clear c8
    try clear c10
    try clear c12
    try clear c17
    try clear c18
    try clear c20
    try clear c20b0
    try clear c20b1
    try clear hcz13_0
    try clear hcz13_1
    try clear hcz13_2
    try clear hcz13_3
    try clear hcz14_0
    try clear hcz14_1
    try clear hcz14_2
    try clear hcz14_3
    try clear hcz14_4
    try clear hcz14_5
    try clear hcz19_0
    try clear hcz19_1
    try clear hcz19_2
    try clear hcz19_3
    try clear hcz9_0
    try clear hcz9_1
    try clear hcz9_2
    try clear hcz9_3
    try clear hcz9_4
    try clear hcz9_5
    try clear hfz13_0
    try clear hfz13_1
    try clear hfz13_2
    try clear hfz13_3
    try clear hfz14_0
    try clear hfz14_1
    try clear hfz14_2
    try clear hfz14_3
    try clear hfz14_4
    try clear hfz14_5
    try clear hfz19_0
    try clear hfz19_1
    try clear hfz19_2
    try clear hfz19_3
    try clear hfz9_0
    try clear hfz9_1
    try clear hfz9_2
    try clear hfz9_3
    try clear hfz9_4
    try clear hfz9_5
    obtain ⟨kq, x37_6, rfl, HA, HJ6, BK317, BK323, BK329, HB⟩ := hcut
    cases kq with
    | zero => exact absurd HA.out (by simp [mapsheetslaw40_SheetgridShares.j0])
    | succ kj6 =>
      have H := HA.out
      clear HA
      simp only [mapsheetslaw40_SheetgridShares.j0] at H
      by_cases c21 : x37_6 = true
      · subst c21
        have H1 : ((mapsheetslaw40_awake.f kj6).bind fun t330 => (some t330)) = some r := by rw [if_pos rfl] at H; exact H
        clear H
        have H := H1
        clear H1
        replace H := Option.bind_eq_some_iff.mp H
        obtain ⟨t330, A220, H⟩ := H
        replace H : (some t330) = some r := H
        have A22 := Aside0.mk A220
        clear A220
        obtain rfl := Option.some.inj H
        go_wp2_with (first | ((with_reducible refine gate_callee (f := 12) rfl ?_); refine goesL_ (some 38) rfl rfl Try.func12 (by kernel_rfl) rfl #[] rfl (by (try simp only [List.map_toArray, List.map_cons, List.map_nil]); first | done | rfl | (simp only [List.length_drop, List.length_take]; rfl)) ?_; (with_reducible refine (mapsheetslaw40_awake.calls kj6  t330 _ A22.out).mono ?_); rintro e w23 ⟨rfl, hb⟩; refine ⟨_, rfl, ?_⟩; have n0_ := Aside0.mk (blk_below (g := gb317) (o := .cells #[.int .i64 a0_0, .int .i64 a0_1, .int .i64 a0_2, .int .i64 a0_3, .int .i64 a0_4, .int .i64 a0_5] 25 (0, 0)) (by (with_reducible repeat (first | refine blk_drewN ?_ _ | refine blk_drew ?_ | refine blk_alloc ?_ _)); exact BK317.out) hb); have n1_ := Aside0.mk (blk_below (g := gb323) (o := .cells #[.int .i64 t318, .int .i64 t319, .int .i64 t320, .int .i64 t321] 27 (0, 0)) (by (with_reducible repeat (first | refine blk_drewN ?_ _ | refine blk_drew ?_ | refine blk_alloc ?_ _)); exact BK323.out) hb); have n2_ := Aside0.mk (blk_below (g := gb329) (o := .cells #[.int .i64 t324, .int .i64 t325, .int .i64 t326, .int .i64 t327] 27 (0, 0)) (by (with_reducible repeat (first | refine blk_drewN ?_ _ | refine blk_drew ?_ | refine blk_alloc ?_ _)); exact BK329.out) hb); have n3_ := Aside0.mk (below_step (by repeat (first | (with_reducible first | exact HB.out | apply below_alloc | apply pw_below_drewN | apply below_drew1 | refine below_set ?_ GE317.out | refine below_set ?_ GE323.out | refine below_set ?_ GE329.out) | exact HB.out)) hb); clear BK317; clear BK323; clear BK329; clear HB; have BK317 := n0_; have BK323 := n1_; have BK329 := n2_; have HB := n3_; clear n0_ n1_ n2_ n3_; (try clear hb); (try clear hb2); (try clear hk); (try clear hi)))
        go_ret
        exact ⟨by first | rfl | (simp [errW_none, errW_some] <;> rfl) | (simp [*, errW_none, errW_some] <;> rfl), by repeat (first | (with_reducible first | exact HB.out | apply below_alloc | apply pw_below_drewN | apply below_drew1 | refine below_set ?_ GE317.out | refine below_set ?_ GE323.out | refine below_set ?_ GE329.out) | exact HB.out)⟩
      · replace c21 := Bool.eq_false_iff.mpr c21
        subst c21
        have H1 : (if a1 = a2 then (mapsheetslaw40_SheetgridShares.j1 kj6 a1 a3 false a0_0 a0_1 a0_2 a0_3 a0_4 a0_5 t318 t319 t320 t321) else (if (mx t318 t324) < (mn t320 t326) then (mapsheetslaw40_SheetgridShares.j1 kj6 a1 a3 (decide ((mx t319 t325) < (mn t321 t327))) a0_0 a0_1 a0_2 a0_3 a0_4 a0_5 t318 t319 t320 t321) else (mapsheetslaw40_SheetgridShares.j1 kj6 a1 a3 false a0_0 a0_1 a0_2 a0_3 a0_4 a0_5 t318 t319 t320 t321))) = some r := by rw [if_neg (show ¬ (false = true) by decide)] at H; exact H
        clear H
        have H := H1
        clear H1
        have HC24 := Aside0.mk H
        clear H
        go_upto_region 5 with (fail)
        go_cut [67] (fun v67 wc => ∃ (kq : Nat) (x67_23 : Bool), v67 = .bool x67_23 ∧ Aside0 (mapsheetslaw40_SheetgridShares.j1 kq a1 a3 x67_23 a0_0 a0_1 a0_2 a0_3 a0_4 a0_5 t318 t319 t320 t321 = some r) ∧ Aside0 (kq ≤ kj6) ∧ Aside0 (wc.heap[gb317]? = some (.cells #[.int .i64 a0_0, .int .i64 a0_1, .int .i64 a0_2, .int .i64 a0_3, .int .i64 a0_4, .int .i64 a0_5] 25 (0, 0))) ∧ Aside0 (wc.heap[gb323]? = some (.cells #[.int .i64 t318, .int .i64 t319, .int .i64 t320, .int .i64 t321] 27 (0, 0))) ∧ Aside0 (wc.heap[gb329]? = some (.cells #[.int .i64 t324, .int .i64 t325, .int .i64 t326, .int .i64 t327] 27 (0, 0))) ∧ Aside0 (Below w.heap.size w wc))
        case first =>
          have H := HC24.out
          clear HC24
          by_cases c25 : a1 = a2
          · rw [if_pos c25] at H
            have c25b0 : (a1 == a2) = true := beq_iff_eq.mpr c25
            have c25b1 : (a1 != a2) = false := bne_eq_false_iff_eq.mpr c25
            clear c25
            (first | rw [c25b0] | (simp only [i64_w, i32_w]; rw [c25b0]) | skip)
            have H' := Aside0.mk H
            clear H
            go_wp2
            go_meet
            case rel => exact ⟨_, (false), (by first | rfl | (simp; done) | (simp [*]; done)), H', ⟨by have := HJ6.out; first | omega | exact Nat.le_refl _⟩, ⟨by (with_reducible repeat (first | refine blk_drewN ?_ _ | refine blk_drew ?_ | refine blk_alloc ?_ _)); exact BK317.out⟩, ⟨by (with_reducible repeat (first | refine blk_drewN ?_ _ | refine blk_drew ?_ | refine blk_alloc ?_ _)); exact BK323.out⟩, ⟨by (with_reducible repeat (first | refine blk_drewN ?_ _ | refine blk_drew ?_ | refine blk_alloc ?_ _)); exact BK329.out⟩, ⟨by repeat (first | (with_reducible first | exact HB.out | apply below_alloc | apply pw_below_drewN | apply below_drew1 | refine below_set ?_ GE317.out | refine below_set ?_ GE323.out | refine below_set ?_ GE329.out) | exact HB.out)⟩⟩
          · rw [if_neg c25] at H
            have c25b0 : (a1 == a2) = false := beq_eq_false_iff_ne.mpr c25
            have c25b1 : (a1 != a2) = true := bne_iff_ne.mpr c25
            (first | rw [c25b0] | (simp only [i64_w, i32_w]; rw [c25b0]) | skip)
            obtain ⟨ji26, hji26⟩ : ∃ j_ : Int, (mx t318 t324) = j_ := ⟨_, rfl⟩
            replace H : (if (ji26) < (mn t320 t326) then (mapsheetslaw40_SheetgridShares.j1 kj6 a1 a3 (decide ((mx t319 t325) < (mn t321 t327))) a0_0 a0_1 a0_2 a0_3 a0_4 a0_5 t318 t319 t320 t321) else (mapsheetslaw40_SheetgridShares.j1 kj6 a1 a3 false a0_0 a0_1 a0_2 a0_3 a0_4 a0_5 t318 t319 t320 t321)) = some r := by first | (rw [hji26] at H; exact H) | (simp only [hji26] at H ⊢; exact H)
            have hji26_ : (if t318 < t324 then t324 else t318) = ji26 := hji26
            obtain ⟨ji27, hji27⟩ : ∃ j_ : Int, (mn t320 t326) = j_ := ⟨_, rfl⟩
            replace H : (if (ji26) < (ji27) then (mapsheetslaw40_SheetgridShares.j1 kj6 a1 a3 (decide ((mx t319 t325) < (mn t321 t327))) a0_0 a0_1 a0_2 a0_3 a0_4 a0_5 t318 t319 t320 t321) else (mapsheetslaw40_SheetgridShares.j1 kj6 a1 a3 false a0_0 a0_1 a0_2 a0_3 a0_4 a0_5 t318 t319 t320 t321)) = some r := by first | (rw [hji27] at H; exact H) | (simp only [hji27] at H ⊢; exact H)
            have hji27_ : (if t326 < t320 then t326 else t320) = ji27 := hji27
            by_cases c28 : (ji26) < (ji27)
            · rw [if_pos c28] at H
              have c28b0 : decide ((ji26) < (ji27)) = true := decide_eq_true c28
              clear c28
              obtain ⟨ji29, hji29⟩ : ∃ j_ : Int, (mx t319 t325) = j_ := ⟨_, rfl⟩
              replace H : (mapsheetslaw40_SheetgridShares.j1 kj6 a1 a3 (decide ((ji29) < (mn t321 t327))) a0_0 a0_1 a0_2 a0_3 a0_4 a0_5 t318 t319 t320 t321) = some r := by first | (rw [hji29] at H; exact H) | (simp only [hji29] at H ⊢; exact H)
              have hji29_ : (if t319 < t325 then t325 else t319) = ji29 := hji29
              obtain ⟨ji30, hji30⟩ : ∃ j_ : Int, (mn t321 t327) = j_ := ⟨_, rfl⟩
              replace H : (mapsheetslaw40_SheetgridShares.j1 kj6 a1 a3 (decide ((ji29) < (ji30))) a0_0 a0_1 a0_2 a0_3 a0_4 a0_5 t318 t319 t320 t321) = some r := by first | (rw [hji30] at H; exact H) | (simp only [hji30] at H ⊢; exact H)
              have hji30_ : (if t327 < t321 then t327 else t321) = ji30 := hji30
              have H' := Aside0.mk H
              clear H
              have hnb31 := NB323_317.out
              have hnc31 := NB317_323.out
              have hnb32 := NB323_329.out
              have hnc32 := NB329_323.out
              have hcz33_0 : wc.cell? ⟨gb323, 0, none⟩ = some (.int .i64 t318) := (blk_cell BK323.out 0).trans rfl
              have hcz33_1 : wc.cell? ⟨gb323, 1, none⟩ = some (.int .i64 t319) := (blk_cell BK323.out 1).trans rfl
              have hcz33_2 : wc.cell? ⟨gb323, 2, none⟩ = some (.int .i64 t320) := (blk_cell BK323.out 2).trans rfl
              have hcz33_3 : wc.cell? ⟨gb323, 3, none⟩ = some (.int .i64 t321) := (blk_cell BK323.out 3).trans rfl
              have hfz33_0 := blk_frozen BK323.out 0
              have hfz33_1 := blk_frozen BK323.out 1
              have hfz33_2 := blk_frozen BK323.out 2
              have hfz33_3 := blk_frozen BK323.out 3
              have hnb34 := NB329_317.out
              have hnc34 := NB317_329.out
              have hcz35_0 : wc.cell? ⟨gb329, 0, none⟩ = some (.int .i64 t324) := (blk_cell BK329.out 0).trans rfl
              have hcz35_1 : wc.cell? ⟨gb329, 1, none⟩ = some (.int .i64 t325) := (blk_cell BK329.out 1).trans rfl
              have hcz35_2 : wc.cell? ⟨gb329, 2, none⟩ = some (.int .i64 t326) := (blk_cell BK329.out 2).trans rfl
              have hcz35_3 : wc.cell? ⟨gb329, 3, none⟩ = some (.int .i64 t327) := (blk_cell BK329.out 3).trans rfl
              have hfz35_0 := blk_frozen BK329.out 0
              have hfz35_1 := blk_frozen BK329.out 1
              have hfz35_2 := blk_frozen BK329.out 2
              have hfz35_3 := blk_frozen BK329.out 3
              go_wp2
              go_meet
              case rel => exact ⟨_, (decide ((ji29) < (ji30))), (by first | rfl | (simp; done) | (simp only [← hji29, ← hji30] <;> (first | rfl | simp)) | (simp [*]; done)), H', ⟨by have := HJ6.out; first | omega | exact Nat.le_refl _⟩, ⟨by (with_reducible repeat (first | refine blk_drewN ?_ _ | refine blk_drew ?_ | refine blk_alloc ?_ _)); exact BK317.out⟩, ⟨by (with_reducible repeat (first | refine blk_drewN ?_ _ | refine blk_drew ?_ | refine blk_alloc ?_ _)); exact BK323.out⟩, ⟨by (with_reducible repeat (first | refine blk_drewN ?_ _ | refine blk_drew ?_ | refine blk_alloc ?_ _)); exact BK329.out⟩, ⟨by repeat (first | (with_reducible first | exact HB.out | apply below_alloc | apply pw_below_drewN | apply below_drew1 | refine below_set ?_ GE317.out | refine below_set ?_ GE323.out | refine below_set ?_ GE329.out) | exact HB.out)⟩⟩
            · rw [if_neg c28] at H
              have c28b0 : decide ((ji26) < (ji27)) = false := decide_eq_false c28
              clear c28
              have H' := Aside0.mk H
              clear H
              have hnb36 := NB323_317.out
              have hnc36 := NB317_323.out
              have hnb37 := NB323_329.out
              have hnc37 := NB329_323.out
              have hcz38_0 : wc.cell? ⟨gb323, 0, none⟩ = some (.int .i64 t318) := (blk_cell BK323.out 0).trans rfl
              have hcz38_1 : wc.cell? ⟨gb323, 1, none⟩ = some (.int .i64 t319) := (blk_cell BK323.out 1).trans rfl
              have hcz38_2 : wc.cell? ⟨gb323, 2, none⟩ = some (.int .i64 t320) := (blk_cell BK323.out 2).trans rfl
              have hcz38_3 : wc.cell? ⟨gb323, 3, none⟩ = some (.int .i64 t321) := (blk_cell BK323.out 3).trans rfl
              have hfz38_0 := blk_frozen BK323.out 0
              have hfz38_1 := blk_frozen BK323.out 1
              have hfz38_2 := blk_frozen BK323.out 2
              have hfz38_3 := blk_frozen BK323.out 3
              have hnb39 := NB329_317.out
              have hnc39 := NB317_329.out
              have hcz40_0 : wc.cell? ⟨gb329, 0, none⟩ = some (.int .i64 t324) := (blk_cell BK329.out 0).trans rfl
              have hcz40_1 : wc.cell? ⟨gb329, 1, none⟩ = some (.int .i64 t325) := (blk_cell BK329.out 1).trans rfl
              have hcz40_2 : wc.cell? ⟨gb329, 2, none⟩ = some (.int .i64 t326) := (blk_cell BK329.out 2).trans rfl
              have hcz40_3 : wc.cell? ⟨gb329, 3, none⟩ = some (.int .i64 t327) := (blk_cell BK329.out 3).trans rfl
              have hfz40_0 := blk_frozen BK329.out 0
              have hfz40_1 := blk_frozen BK329.out 1
              have hfz40_2 := blk_frozen BK329.out 2
              have hfz40_3 := blk_frozen BK329.out 3
              go_wp2
              go_meet
              case rel => exact ⟨_, (false), (by first | rfl | (simp; done) | (simp [*]; done)), H', ⟨by have := HJ6.out; first | omega | exact Nat.le_refl _⟩, ⟨by (with_reducible repeat (first | refine blk_drewN ?_ _ | refine blk_drew ?_ | refine blk_alloc ?_ _)); exact BK317.out⟩, ⟨by (with_reducible repeat (first | refine blk_drewN ?_ _ | refine blk_drew ?_ | refine blk_alloc ?_ _)); exact BK323.out⟩, ⟨by (with_reducible repeat (first | refine blk_drewN ?_ _ | refine blk_drew ?_ | refine blk_alloc ?_ _)); exact BK329.out⟩, ⟨by repeat (first | (with_reducible first | exact HB.out | apply below_alloc | apply pw_below_drewN | apply below_drew1 | refine below_set ?_ GE317.out | refine below_set ?_ GE323.out | refine below_set ?_ GE329.out) | exact HB.out)⟩⟩
        case rest =>
          clear HC24
          try clear c1
          try clear c2
          try clear p2
          try clear c3
          try clear c8
          try clear c10
          try clear c12
          try clear c17
          try clear c18
          try clear c20
          try clear c20b0
          try clear c20b1
          try clear c21
          try clear c25
          try clear c25b0
          try clear c25b1
          try clear c28
          try clear c28b0
          try clear c31
          try clear c32
          try clear c34
          try clear c36
          try clear c37
          try clear c39
          try clear hcz13_0
          try clear hcz13_1
          try clear hcz13_2
          try clear hcz13_3
          try clear hcz14_0
          try clear hcz14_1
          try clear hcz14_2
          try clear hcz14_3
          try clear hcz14_4
          try clear hcz14_5
          try clear hcz19_0
          try clear hcz19_1
          try clear hcz19_2
          try clear hcz19_3
          try clear hcz33_0
          try clear hcz33_1
          try clear hcz33_2
          try clear hcz33_3
          try clear hcz35_0
          try clear hcz35_1
          try clear hcz35_2
          try clear hcz35_3
          try clear hcz38_0
          try clear hcz38_1
          try clear hcz38_2
          try clear hcz38_3
          try clear hcz40_0
          try clear hcz40_1
          try clear hcz40_2
          try clear hcz40_3
          try clear hcz9_0
          try clear hcz9_1
          try clear hcz9_2
          try clear hcz9_3
          try clear hcz9_4
          try clear hcz9_5
          try clear hfz13_0
          try clear hfz13_1
          try clear hfz13_2
          try clear hfz13_3
          try clear hfz14_0
          try clear hfz14_1
          try clear hfz14_2
          try clear hfz14_3
          try clear hfz14_4
          try clear hfz14_5
          try clear hfz19_0
          try clear hfz19_1
          try clear hfz19_2
          try clear hfz19_3
          try clear hfz33_0
          try clear hfz33_1
          try clear hfz33_2
          try clear hfz33_3
          try clear hfz35_0
          try clear hfz35_1
          try clear hfz35_2
          try clear hfz35_3
          try clear hfz38_0
          try clear hfz38_1
          try clear hfz38_2
          try clear hfz38_3
          try clear hfz40_0
          try clear hfz40_1
          try clear hfz40_2
          try clear hfz40_3
          try clear hfz9_0
          try clear hfz9_1
          try clear hfz9_2
          try clear hfz9_3
          try clear hfz9_4
          try clear hfz9_5
          try clear p2
          obtain ⟨kq, x67_23, rfl, HA, HJ23, BK317, BK323, BK329, HB⟩ := hcut
          cases kq with
          | zero => exact absurd HA.out (by simp [mapsheetslaw40_SheetgridShares.j1])
          | succ kj23 =>
            have H := HA.out
            clear HA
            simp only [mapsheetslaw40_SheetgridShares.j1] at H
            by_cases c41 : x67_23 = true
            · subst c41
              have H1 : (none) = some r := by rw [if_pos rfl] at H; exact H
              clear H
              have H := H1
              clear H1
              exact absurd H (by simp)
            · replace c41 := Bool.eq_false_iff.mpr c41
              subst c41
              have H1 : ((sheetgrid_Neighbor.f kj23 a0_0 a0_1 a0_2 a0_3 a0_4 a0_5 a1 a3).bind fun bt331 => (if bt331.2 = true then ((sheetgrid_Box.f kj23 a0_0 a0_1 a0_2 a0_3 a0_4 a0_5 bt331.1).bind fun bt333 => ((some (([3, 4, 1, 2] : List Int) : List Int)).bind fun y339 => (if 0 ≤ (Int.tmod (wrap64 (a3 + 3)) 4) then (if (Int.tmod (wrap64 (a3 + 3)) 4) < (y339.length : Int) then ((sheetgrid_Neighbor.f kj23 a0_0 a0_1 a0_2 a0_3 a0_4 a0_5 bt331.1 (rd y339 (Int.tmod (wrap64 (a3 + 3)) 4))).bind fun bt343 => ((mapsheetslaw40_awake.f kj23).bind fun t346 => (if t346 = true then (if bt333.2.2.2.2 = 0 then (if bt343.2 = true then (if bt343.1 = a1 then (if (((wrap64 ((mn t320 bt333.2.2.1) - (mx t318 bt333.1))) == a0_2) != ((wrap64 ((mn t321 bt333.2.2.2.1) - (mx t319 bt333.2.1))) == a0_3)) = true then (if (mx t318 bt333.1) = (mn t320 bt333.2.2.1) then (some true) else (some ((mx t319 bt333.2.1) == (mn t321 bt333.2.2.2.1)))) else (none)) else (none)) else (none)) else (none)) else (none)))) else (none)) else (none)))) else ((mapsheetslaw40_awake.f kj23).bind fun t347 => (if t347 = true then (some (bt331.1 == 0)) else (none))))) = some r := by rw [if_neg (show ¬ (false = true) by decide)] at H; exact H
              clear H
              have H := H1
              clear H1
              replace H := Option.bind_eq_some_iff.mp H
              obtain ⟨⟨t331, t332⟩, A420, H⟩ := H
              replace H : (if t332 = true then ((sheetgrid_Box.f kj23 a0_0 a0_1 a0_2 a0_3 a0_4 a0_5 t331).bind fun bt333 => ((some (([3, 4, 1, 2] : List Int) : List Int)).bind fun y339 => (if 0 ≤ (Int.tmod (wrap64 (a3 + 3)) 4) then (if (Int.tmod (wrap64 (a3 + 3)) 4) < (y339.length : Int) then ((sheetgrid_Neighbor.f kj23 a0_0 a0_1 a0_2 a0_3 a0_4 a0_5 t331 (rd y339 (Int.tmod (wrap64 (a3 + 3)) 4))).bind fun bt343 => ((mapsheetslaw40_awake.f kj23).bind fun t346 => (if t346 = true then (if bt333.2.2.2.2 = 0 then (if bt343.2 = true then (if bt343.1 = a1 then (if (((wrap64 ((mn t320 bt333.2.2.1) - (mx t318 bt333.1))) == a0_2) != ((wrap64 ((mn t321 bt333.2.2.2.1) - (mx t319 bt333.2.1))) == a0_3)) = true then (if (mx t318 bt333.1) = (mn t320 bt333.2.2.1) then (some true) else (some ((mx t319 bt333.2.1) == (mn t321 bt333.2.2.2.1)))) else (none)) else (none)) else (none)) else (none)) else (none)))) else (none)) else (none)))) else ((mapsheetslaw40_awake.f kj23).bind fun t347 => (if t347 = true then (some (t331 == 0)) else (none)))) = some r := H
              have A42 := Aside0.mk A420
              clear A420
              by_cases c43 : t332 = true
              · subst c43
                have H1 : ((sheetgrid_Box.f kj23 a0_0 a0_1 a0_2 a0_3 a0_4 a0_5 t331).bind fun bt333 => ((some (([3, 4, 1, 2] : List Int) : List Int)).bind fun y339 => (if 0 ≤ (Int.tmod (wrap64 (a3 + 3)) 4) then (if (Int.tmod (wrap64 (a3 + 3)) 4) < (y339.length : Int) then ((sheetgrid_Neighbor.f kj23 a0_0 a0_1 a0_2 a0_3 a0_4 a0_5 t331 (rd y339 (Int.tmod (wrap64 (a3 + 3)) 4))).bind fun bt343 => ((mapsheetslaw40_awake.f kj23).bind fun t346 => (if t346 = true then (if bt333.2.2.2.2 = 0 then (if bt343.2 = true then (if bt343.1 = a1 then (if (((wrap64 ((mn t320 bt333.2.2.1) - (mx t318 bt333.1))) == a0_2) != ((wrap64 ((mn t321 bt333.2.2.2.1) - (mx t319 bt333.2.1))) == a0_3)) = true then (if (mx t318 bt333.1) = (mn t320 bt333.2.2.1) then (some true) else (some ((mx t319 bt333.2.1) == (mn t321 bt333.2.2.2.1)))) else (none)) else (none)) else (none)) else (none)) else (none)))) else (none)) else (none)))) = some r := by rw [if_pos rfl] at H; exact H
                clear H
                have H := H1
                clear H1
                replace H := Option.bind_eq_some_iff.mp H
                obtain ⟨⟨t333, t334, t335, t336, t337⟩, A440, H⟩ := H
                replace H : ((some (([3, 4, 1, 2] : List Int) : List Int)).bind fun y339 => (if 0 ≤ (Int.tmod (wrap64 (a3 + 3)) 4) then (if (Int.tmod (wrap64 (a3 + 3)) 4) < (y339.length : Int) then ((sheetgrid_Neighbor.f kj23 a0_0 a0_1 a0_2 a0_3 a0_4 a0_5 t331 (rd y339 (Int.tmod (wrap64 (a3 + 3)) 4))).bind fun bt343 => ((mapsheetslaw40_awake.f kj23).bind fun t346 => (if t346 = true then (if t337 = 0 then (if bt343.2 = true then (if bt343.1 = a1 then (if (((wrap64 ((mn t320 t335) - (mx t318 t333))) == a0_2) != ((wrap64 ((mn t321 t336) - (mx t319 t334))) == a0_3)) = true then (if (mx t318 t333) = (mn t320 t335) then (some true) else (some ((mx t319 t334) == (mn t321 t336)))) else (none)) else (none)) else (none)) else (none)) else (none)))) else (none)) else (none))) = some r := H
                have A44 := Aside0.mk A440
                clear A440
                obtain ⟨y339, hy339⟩ : ∃ y_ : List Int, y_ = (([3, 4, 1, 2] : List Int)) := ⟨_, rfl⟩
                replace H : (if 0 ≤ (Int.tmod (wrap64 (a3 + 3)) 4) then (if (Int.tmod (wrap64 (a3 + 3)) 4) < (y339.length : Int) then ((sheetgrid_Neighbor.f kj23 a0_0 a0_1 a0_2 a0_3 a0_4 a0_5 t331 (rd y339 (Int.tmod (wrap64 (a3 + 3)) 4))).bind fun bt343 => ((mapsheetslaw40_awake.f kj23).bind fun t346 => (if t346 = true then (if t337 = 0 then (if bt343.2 = true then (if bt343.1 = a1 then (if (((wrap64 ((mn t320 t335) - (mx t318 t333))) == a0_2) != ((wrap64 ((mn t321 t336) - (mx t319 t334))) == a0_3)) = true then (if (mx t318 t333) = (mn t320 t335) then (some true) else (some ((mx t319 t334) == (mn t321 t336)))) else (none)) else (none)) else (none)) else (none)) else (none)))) else (none)) else (none)) = some r := by first | (rw [hy339]; with_reducible exact H) | (have H2_ := (Option.bind_some _ _).symm.trans H; rw [hy339]; with_reducible exact H2_) | (have H2_ := (Option.bind_some _ _).symm.trans H; with_reducible exact H2_) | with_reducible exact H | (rw [hy339]; exact H) | exact H
                have Ny339 := Aside0.mk hy339
                clear hy339
                obtain ⟨ji45, hji45⟩ : ∃ j_ : Int, (Int.tmod (wrap64 (a3 + 3)) 4) = j_ := ⟨_, rfl⟩
                replace H : (if 0 ≤ (ji45) then (if (ji45) < (y339.length : Int) then ((sheetgrid_Neighbor.f kj23 a0_0 a0_1 a0_2 a0_3 a0_4 a0_5 t331 (rd y339 (ji45))).bind fun bt343 => ((mapsheetslaw40_awake.f kj23).bind fun t346 => (if t346 = true then (if t337 = 0 then (if bt343.2 = true then (if bt343.1 = a1 then (if (((wrap64 ((mn t320 t335) - (mx t318 t333))) == a0_2) != ((wrap64 ((mn t321 t336) - (mx t319 t334))) == a0_3)) = true then (if (mx t318 t333) = (mn t320 t335) then (some true) else (some ((mx t319 t334) == (mn t321 t336)))) else (none)) else (none)) else (none)) else (none)) else (none)))) else (none)) else (none)) = some r := by first | (rw [hji45] at H; exact H) | (simp only [hji45] at H ⊢; exact H)
                (try rw [hji45] at A42)
                (try rw [hji45] at A44)
                by_cases c46 : 0 ≤ (ji45)
                · rw [if_pos c46] at H
                  have c46b0 : decide (0 ≤ (ji45)) = true := decide_eq_true c46
                  clear c46
                  by_cases c47 : (ji45) < (y339.length : Int)
                  · rw [if_pos c47] at H
                    have c47b0 : decide ((ji45) < (y339.length : Int)) = true := decide_eq_true c47
                    clear c47
                    replace H := Option.bind_eq_some_iff.mp H
                    obtain ⟨⟨t343, t344⟩, A480, H⟩ := H
                    replace H : ((mapsheetslaw40_awake.f kj23).bind fun t346 => (if t346 = true then (if t337 = 0 then (if t344 = true then (if t343 = a1 then (if (((wrap64 ((mn t320 t335) - (mx t318 t333))) == a0_2) != ((wrap64 ((mn t321 t336) - (mx t319 t334))) == a0_3)) = true then (if (mx t318 t333) = (mn t320 t335) then (some true) else (some ((mx t319 t334) == (mn t321 t336)))) else (none)) else (none)) else (none)) else (none)) else (none))) = some r := H
                    have A48 := Aside0.mk A480
                    clear A480
                    obtain ⟨ji49, hji49⟩ : ∃ j_ : Int, (mx t318 t333) = j_ := ⟨_, rfl⟩
                    replace H : ((mapsheetslaw40_awake.f kj23).bind fun t346 => (if t346 = true then (if t337 = 0 then (if t344 = true then (if t343 = a1 then (if (((wrap64 ((mn t320 t335) - (ji49))) == a0_2) != ((wrap64 ((mn t321 t336) - (mx t319 t334))) == a0_3)) = true then (if (ji49) = (mn t320 t335) then (some true) else (some ((mx t319 t334) == (mn t321 t336)))) else (none)) else (none)) else (none)) else (none)) else (none))) = some r := by first | (rw [hji49] at H; exact H) | (simp only [hji49] at H ⊢; exact H)
                    (try rw [hji49] at A42)
                    (try rw [hji49] at A44)
                    (try rw [hji49] at A48)
                    have hji49_ : (if t318 < t333 then t333 else t318) = ji49 := hji49
                    obtain ⟨ji50, hji50⟩ : ∃ j_ : Int, (mx t319 t334) = j_ := ⟨_, rfl⟩
                    replace H : ((mapsheetslaw40_awake.f kj23).bind fun t346 => (if t346 = true then (if t337 = 0 then (if t344 = true then (if t343 = a1 then (if (((wrap64 ((mn t320 t335) - (ji49))) == a0_2) != ((wrap64 ((mn t321 t336) - (ji50))) == a0_3)) = true then (if (ji49) = (mn t320 t335) then (some true) else (some ((ji50) == (mn t321 t336)))) else (none)) else (none)) else (none)) else (none)) else (none))) = some r := by first | (rw [hji50] at H; exact H) | (simp only [hji50] at H ⊢; exact H)
                    (try rw [hji50] at A42)
                    (try rw [hji50] at A44)
                    (try rw [hji50] at A48)
                    have hji50_ : (if t319 < t334 then t334 else t319) = ji50 := hji50
                    obtain ⟨ji51, hji51⟩ : ∃ j_ : Int, (mn t320 t335) = j_ := ⟨_, rfl⟩
                    replace H : ((mapsheetslaw40_awake.f kj23).bind fun t346 => (if t346 = true then (if t337 = 0 then (if t344 = true then (if t343 = a1 then (if (((wrap64 ((ji51) - (ji49))) == a0_2) != ((wrap64 ((mn t321 t336) - (ji50))) == a0_3)) = true then (if (ji49) = (ji51) then (some true) else (some ((ji50) == (mn t321 t336)))) else (none)) else (none)) else (none)) else (none)) else (none))) = some r := by first | (rw [hji51] at H; exact H) | (simp only [hji51] at H ⊢; exact H)
                    (try rw [hji51] at A42)
                    (try rw [hji51] at A44)
                    (try rw [hji51] at A48)
                    have hji51_ : (if t335 < t320 then t335 else t320) = ji51 := hji51
                    obtain ⟨ji52, hji52⟩ : ∃ j_ : Int, (mn t321 t336) = j_ := ⟨_, rfl⟩
                    replace H : ((mapsheetslaw40_awake.f kj23).bind fun t346 => (if t346 = true then (if t337 = 0 then (if t344 = true then (if t343 = a1 then (if (((wrap64 ((ji51) - (ji49))) == a0_2) != ((wrap64 ((ji52) - (ji50))) == a0_3)) = true then (if (ji49) = (ji51) then (some true) else (some ((ji50) == (ji52)))) else (none)) else (none)) else (none)) else (none)) else (none))) = some r := by first | (rw [hji52] at H; exact H) | (simp only [hji52] at H ⊢; exact H)
                    (try rw [hji52] at A42)
                    (try rw [hji52] at A44)
                    (try rw [hji52] at A48)
                    have hji52_ : (if t336 < t321 then t336 else t321) = ji52 := hji52
                    replace H := Option.bind_eq_some_iff.mp H
                    obtain ⟨t346, A530, H⟩ := H
                    replace H : (if t346 = true then (if t337 = 0 then (if t344 = true then (if t343 = a1 then (if (((wrap64 ((ji51) - (ji49))) == a0_2) != ((wrap64 ((ji52) - (ji50))) == a0_3)) = true then (if (ji49) = (ji51) then (some true) else (some ((ji50) == (ji52)))) else (none)) else (none)) else (none)) else (none)) else (none)) = some r := H
                    have A53 := Aside0.mk A530
                    clear A530
                    by_cases c54 : t346 = true
                    · subst c54
                      have H1 : (if t337 = 0 then (if t344 = true then (if t343 = a1 then (if (((wrap64 ((ji51) - (ji49))) == a0_2) != ((wrap64 ((ji52) - (ji50))) == a0_3)) = true then (if (ji49) = (ji51) then (some true) else (some ((ji50) == (ji52)))) else (none)) else (none)) else (none)) else (none)) = some r := by rw [if_pos rfl] at H; exact H
                      clear H
                      have H := H1
                      clear H1
                      by_cases c55 : t337 = 0
                      · rw [if_pos c55] at H
                        have c55b0 : (t337 == 0) = true := beq_iff_eq.mpr c55
                        have c55b1 : (t337 != 0) = false := bne_eq_false_iff_eq.mpr c55
                        clear c55
                        by_cases c56 : t344 = true
                        · subst c56
                          have H1 : (if t343 = a1 then (if (((wrap64 ((ji51) - (ji49))) == a0_2) != ((wrap64 ((ji52) - (ji50))) == a0_3)) = true then (if (ji49) = (ji51) then (some true) else (some ((ji50) == (ji52)))) else (none)) else (none)) = some r := by rw [if_pos rfl] at H; exact H
                          clear H
                          have H := H1
                          clear H1
                          by_cases c57 : t343 = a1
                          · rw [if_pos c57] at H
                            have c57b0 : (t343 == a1) = true := beq_iff_eq.mpr c57
                            have c57b1 : (t343 != a1) = false := bne_eq_false_iff_eq.mpr c57
                            clear c57
                            by_cases c58 : (((wrap64 ((ji51) - (ji49))) == a0_2) != ((wrap64 ((ji52) - (ji50))) == a0_3)) = true
                            · rw [if_pos c58] at H
                              have c58b0 : (((wrap64 ((ji51) - (ji49))) == a0_2) != ((wrap64 ((ji52) - (ji50))) == a0_3)) = true := c58
                              (try (have c58b1 : decide (((wrap64 ((ji51) - (ji49))) == a0_2) = ((wrap64 ((ji52) - (ji50))) == a0_3)) = false := by simpa using c58))
                              (try (have c58b2 : (((wrap64 ((ji51) - (ji49))) == a0_2) == ((wrap64 ((ji52) - (ji50))) == a0_3)) = false := by simpa using c58))
                              (try (have c58b3 : ¬ (((wrap64 ((ji51) - (ji49))) == a0_2) = ((wrap64 ((ji52) - (ji50))) == a0_3)) := by simpa using c58))
                              clear c58
                              by_cases c59 : (ji49) = (ji51)
                              · rw [if_pos c59] at H
                                have c59b0 : ((ji49) == (ji51)) = true := beq_iff_eq.mpr c59
                                have c59b1 : ((ji49) != (ji51)) = false := bne_eq_false_iff_eq.mpr c59
                                clear c59
                                obtain rfl := Option.some.inj H
                                have hnb60 := NB317_323.out
                                have hnc60 := NB323_317.out
                                have hnb61 := NB317_329.out
                                have hnc61 := NB329_317.out
                                have hcz62_0 : wc.cell? ⟨gb317, 0, none⟩ = some (.int .i64 a0_0) := (blk_cell BK317.out 0).trans rfl
                                have hcz62_1 : wc.cell? ⟨gb317, 1, none⟩ = some (.int .i64 a0_1) := (blk_cell BK317.out 1).trans rfl
                                have hcz62_2 : wc.cell? ⟨gb317, 2, none⟩ = some (.int .i64 a0_2) := (blk_cell BK317.out 2).trans rfl
                                have hcz62_3 : wc.cell? ⟨gb317, 3, none⟩ = some (.int .i64 a0_3) := (blk_cell BK317.out 3).trans rfl
                                have hcz62_4 : wc.cell? ⟨gb317, 4, none⟩ = some (.int .i64 a0_4) := (blk_cell BK317.out 4).trans rfl
                                have hcz62_5 : wc.cell? ⟨gb317, 5, none⟩ = some (.int .i64 a0_5) := (blk_cell BK317.out 5).trans rfl
                                have hfz62_0 := blk_frozen BK317.out 0
                                have hfz62_1 := blk_frozen BK317.out 1
                                have hfz62_2 := blk_frozen BK317.out 2
                                have hfz62_3 := blk_frozen BK317.out 3
                                have hfz62_4 := blk_frozen BK317.out 4
                                have hfz62_5 := blk_frozen BK317.out 5
                                try go_wp2_with (first | ((with_reducible refine gate_callee (f := 20) rfl ?_); refine goesL_ (some 72) rfl rfl Try.func20 (by kernel_rfl) rfl #[.agg #[.int .i64 a0_0, .int .i64 a0_1, .int .i64 a0_2, .int .i64 a0_3, .int .i64 a0_4, .int .i64 a0_5], .int .i64 a1, .int .i64 a3] rfl (by (try simp only [List.map_toArray, List.map_cons, List.map_nil]); first | done | rfl | (simp only [List.length_drop, List.length_take]; rfl)) ?_; (with_reducible refine (sheetgrid_Neighbor.calls kj23 a0_0 a0_1 a0_2 a0_3 a0_4 a0_5 a1 a3 t331 true _ A42.out).mono ?_); rintro e w63 ⟨rfl, hb⟩; refine ⟨_, rfl, ?_⟩; have n0_ := Aside0.mk (blk_below (g := gb317) (o := .cells #[.int .i64 a0_0, .int .i64 a0_1, .int .i64 a0_2, .int .i64 a0_3, .int .i64 a0_4, .int .i64 a0_5] 25 (0, 0)) (by (with_reducible repeat (first | refine blk_drewN ?_ _ | refine blk_drew ?_ | refine blk_alloc ?_ _)); exact BK317.out) hb); have n1_ := Aside0.mk (blk_below (g := gb323) (o := .cells #[.int .i64 t318, .int .i64 t319, .int .i64 t320, .int .i64 t321] 27 (0, 0)) (by (with_reducible repeat (first | refine blk_drewN ?_ _ | refine blk_drew ?_ | refine blk_alloc ?_ _)); exact BK323.out) hb); have n2_ := Aside0.mk (blk_below (g := gb329) (o := .cells #[.int .i64 t324, .int .i64 t325, .int .i64 t326, .int .i64 t327] 27 (0, 0)) (by (with_reducible repeat (first | refine blk_drewN ?_ _ | refine blk_drew ?_ | refine blk_alloc ?_ _)); exact BK329.out) hb); have n3_ := Aside0.mk (below_step (by repeat (first | (with_reducible first | exact HB.out | apply below_alloc | apply pw_below_drewN | apply below_drew1 | refine below_set ?_ GE317.out | refine below_set ?_ GE323.out | refine below_set ?_ GE329.out) | exact HB.out)) hb); clear BK317; clear BK323; clear BK329; clear HB; have BK317 := n0_; have BK323 := n1_; have BK329 := n2_; have HB := n3_; clear n0_ n1_ n2_ n3_; (try clear hb); (try clear hb2); (try clear hk); (try clear hi); have hcz64_0 : w63.cell? ⟨gb317, 0, none⟩ = some (.int .i64 a0_0) := (blk_cell BK317.out 0).trans rfl; have hcz64_1 : w63.cell? ⟨gb317, 1, none⟩ = some (.int .i64 a0_1) := (blk_cell BK317.out 1).trans rfl; have hcz64_2 : w63.cell? ⟨gb317, 2, none⟩ = some (.int .i64 a0_2) := (blk_cell BK317.out 2).trans rfl; have hcz64_3 : w63.cell? ⟨gb317, 3, none⟩ = some (.int .i64 a0_3) := (blk_cell BK317.out 3).trans rfl; have hcz64_4 : w63.cell? ⟨gb317, 4, none⟩ = some (.int .i64 a0_4) := (blk_cell BK317.out 4).trans rfl; have hcz64_5 : w63.cell? ⟨gb317, 5, none⟩ = some (.int .i64 a0_5) := (blk_cell BK317.out 5).trans rfl; have hfz64_0 := blk_frozen BK317.out 0; have hfz64_1 := blk_frozen BK317.out 1; have hfz64_2 := blk_frozen BK317.out 2; have hfz64_3 := blk_frozen BK317.out 3; have hfz64_4 := blk_frozen BK317.out 4; have hfz64_5 := blk_frozen BK317.out 5) | ((with_reducible refine gate_callee (f := 10) rfl ?_); refine goesL_ (some 85) rfl rfl Try.func10 (by kernel_rfl) rfl #[.agg #[.int .i64 a0_0, .int .i64 a0_1, .int .i64 a0_2, .int .i64 a0_3, .int .i64 a0_4, .int .i64 a0_5], .int .i64 t331] rfl (by (try simp only [List.map_toArray, List.map_cons, List.map_nil]); first | done | rfl | (simp only [List.length_drop, List.length_take]; rfl)) ?_; (with_reducible refine (sheetgrid_Box.calls kj23 a0_0 a0_1 a0_2 a0_3 a0_4 a0_5 t331 t333 t334 t335 t336 t337 _ A44.out).mono ?_); rintro e w65 ⟨rfl, hb⟩; refine ⟨_, rfl, ?_⟩; have n0_ := Aside0.mk (blk_below (g := gb317) (o := .cells #[.int .i64 a0_0, .int .i64 a0_1, .int .i64 a0_2, .int .i64 a0_3, .int .i64 a0_4, .int .i64 a0_5] 25 (0, 0)) (by (with_reducible repeat (first | refine blk_drewN ?_ _ | refine blk_drew ?_ | refine blk_alloc ?_ _)); exact BK317.out) hb); have n1_ := Aside0.mk (blk_below (g := gb323) (o := .cells #[.int .i64 t318, .int .i64 t319, .int .i64 t320, .int .i64 t321] 27 (0, 0)) (by (with_reducible repeat (first | refine blk_drewN ?_ _ | refine blk_drew ?_ | refine blk_alloc ?_ _)); exact BK323.out) hb); have n2_ := Aside0.mk (blk_below (g := gb329) (o := .cells #[.int .i64 t324, .int .i64 t325, .int .i64 t326, .int .i64 t327] 27 (0, 0)) (by (with_reducible repeat (first | refine blk_drewN ?_ _ | refine blk_drew ?_ | refine blk_alloc ?_ _)); exact BK329.out) hb); have n3_ := Aside0.mk (below_step (by repeat (first | (with_reducible first | exact HB.out | apply below_alloc | apply pw_below_drewN | apply below_drew1 | refine below_set ?_ GE317.out | refine below_set ?_ GE323.out | refine below_set ?_ GE329.out) | exact HB.out)) hb); clear BK317; clear BK323; clear BK329; clear HB; have BK317 := n0_; have BK323 := n1_; have BK329 := n2_; have HB := n3_; clear n0_ n1_ n2_ n3_; (try clear hb); (try clear hb2); (try clear hk); (try clear hi)) | ((with_reducible refine gate_dst (N := 15) rfl ?_); (try (refine gate_guard (by rfl) ?_; dsimp only)); refine box_event ?hg (N := 15) ?hd (cs := #[.int .i64 0, .int .i64 0, .int .i64 0, .int .i64 0]) (t := 27) ?hr ?_; (case hd => rfl); (case hg => rfl); (case hr => first | (go_simp; done) | (go_simp; rfl)); intro gb338 hg w66 hbox hb; have n0_ := Aside0.mk (blk_below (g := gb317) (o := .cells #[.int .i64 a0_0, .int .i64 a0_1, .int .i64 a0_2, .int .i64 a0_3, .int .i64 a0_4, .int .i64 a0_5] 25 (0, 0)) (by (with_reducible repeat (first | refine blk_drewN ?_ _ | refine blk_drew ?_ | refine blk_alloc ?_ _)); exact BK317.out) hb); have n1_ := Aside0.mk (blk_below (g := gb323) (o := .cells #[.int .i64 t318, .int .i64 t319, .int .i64 t320, .int .i64 t321] 27 (0, 0)) (by (with_reducible repeat (first | refine blk_drewN ?_ _ | refine blk_drew ?_ | refine blk_alloc ?_ _)); exact BK323.out) hb); have n2_ := Aside0.mk (blk_below (g := gb329) (o := .cells #[.int .i64 t324, .int .i64 t325, .int .i64 t326, .int .i64 t327] 27 (0, 0)) (by (with_reducible repeat (first | refine blk_drewN ?_ _ | refine blk_drew ?_ | refine blk_alloc ?_ _)); exact BK329.out) hb); have n3_ := Aside0.mk (below_step (by repeat (first | (with_reducible first | exact HB.out | apply below_alloc | apply pw_below_drewN | apply below_drew1 | refine below_set ?_ GE317.out | refine below_set ?_ GE323.out | refine below_set ?_ GE329.out) | exact HB.out)) hb); have n4_ := Aside0.mk (hbox); have n5_ := Aside0.mk ((by rw [hg]; exact (below_size (by repeat (first | (with_reducible first | exact HB.out | apply below_alloc | apply pw_below_drewN | apply below_drew1 | refine below_set ?_ GE317.out | refine below_set ?_ GE323.out | refine below_set ?_ GE329.out) | exact HB.out))) : w.heap.size ≤ gb338)); have n6_ := Aside0.mk ((by rw [hg]; exact (below_size (by repeat (first | (with_reducible first | exact HB.out | apply below_alloc | apply pw_below_drewN | apply below_drew1 | refine below_set ?_ GE317.out | refine below_set ?_ GE323.out | refine below_set ?_ GE329.out) | exact HB.out))) : w.heap.size ≤ gb338)); have n7_ := Aside0.mk ((by rw [hg]; exact Nat.ne_of_lt (blk_lt (g := gb317) (o := .cells #[.int .i64 a0_0, .int .i64 a0_1, .int .i64 a0_2, .int .i64 a0_3, .int .i64 a0_4, .int .i64 a0_5] 25 (0, 0)) (by (with_reducible repeat (first | refine blk_drewN ?_ _ | refine blk_drew ?_ | refine blk_alloc ?_ _)); exact BK317.out)) : gb317 ≠ gb338)); have n8_ := Aside0.mk ((by rw [hg]; exact Nat.ne_of_gt (blk_lt (g := gb317) (o := .cells #[.int .i64 a0_0, .int .i64 a0_1, .int .i64 a0_2, .int .i64 a0_3, .int .i64 a0_4, .int .i64 a0_5] 25 (0, 0)) (by (with_reducible repeat (first | refine blk_drewN ?_ _ | refine blk_drew ?_ | refine blk_alloc ?_ _)); exact BK317.out)) : gb338 ≠ gb317)); have n9_ := Aside0.mk ((by rw [hg]; exact Nat.ne_of_lt (blk_lt (g := gb323) (o := .cells #[.int .i64 t318, .int .i64 t319, .int .i64 t320, .int .i64 t321] 27 (0, 0)) (by (with_reducible repeat (first | refine blk_drewN ?_ _ | refine blk_drew ?_ | refine blk_alloc ?_ _)); exact BK323.out)) : gb323 ≠ gb338)); have n10_ := Aside0.mk ((by rw [hg]; exact Nat.ne_of_gt (blk_lt (g := gb323) (o := .cells #[.int .i64 t318, .int .i64 t319, .int .i64 t320, .int .i64 t321] 27 (0, 0)) (by (with_reducible repeat (first | refine blk_drewN ?_ _ | refine blk_drew ?_ | refine blk_alloc ?_ _)); exact BK323.out)) : gb338 ≠ gb323)); have n11_ := Aside0.mk ((by rw [hg]; exact Nat.ne_of_lt (blk_lt (g := gb329) (o := .cells #[.int .i64 t324, .int .i64 t325, .int .i64 t326, .int .i64 t327] 27 (0, 0)) (by (with_reducible repeat (first | refine blk_drewN ?_ _ | refine blk_drew ?_ | refine blk_alloc ?_ _)); exact BK329.out)) : gb329 ≠ gb338)); have n12_ := Aside0.mk ((by rw [hg]; exact Nat.ne_of_gt (blk_lt (g := gb329) (o := .cells #[.int .i64 t324, .int .i64 t325, .int .i64 t326, .int .i64 t327] 27 (0, 0)) (by (with_reducible repeat (first | refine blk_drewN ?_ _ | refine blk_drew ?_ | refine blk_alloc ?_ _)); exact BK329.out)) : gb338 ≠ gb329)); clear BK317; clear BK323; clear BK329; clear HB; have BK317 := n0_; have BK323 := n1_; have BK329 := n2_; have HB := n3_; have BK338 := n4_; have GW338 := n5_; have GE338 := n6_; have NB317_338 := n7_; have NB338_317 := n8_; have NB323_338 := n9_; have NB338_323 := n10_; have NB329_338 := n11_; have NB338_329 := n12_; clear n0_ n1_ n2_ n3_ n4_ n5_ n6_ n7_ n8_ n9_ n10_ n11_ n12_; clear hb hbox hg; have hnb67 := NB338_317.out; have hnc67 := NB317_338.out; have hnb68 := NB338_323.out; have hnc68 := NB323_338.out; have hnb69 := NB338_329.out; have hnc69 := NB329_338.out; have hcz70_0 : w66.cell? ⟨gb338, 0, none⟩ = some (.int .i64 0) := (blk_cell BK338.out 0).trans rfl; have hcz70_1 : w66.cell? ⟨gb338, 1, none⟩ = some (.int .i64 0) := (blk_cell BK338.out 1).trans rfl; have hcz70_2 : w66.cell? ⟨gb338, 2, none⟩ = some (.int .i64 0) := (blk_cell BK338.out 2).trans rfl; have hcz70_3 : w66.cell? ⟨gb338, 3, none⟩ = some (.int .i64 0) := (blk_cell BK338.out 3).trans rfl; have hfz70_0 := blk_frozen BK338.out 0; have hfz70_1 := blk_frozen BK338.out 1; have hfz70_2 := blk_frozen BK338.out 2; have hfz70_3 := blk_frozen BK338.out 3))
                                have pi342 : (0 ≤ ((ji45) : Int)) = True := eq_true (of_decide_eq_true (by first | (with_reducible assumption) | assumption))
                                have qi342 : ((ji45) < (y339.length : Int)) = True := eq_true (of_decide_eq_true (by first | (with_reducible assumption) | assumption))
                                have n0_ : Aside0 (((((w66.setCell ⟨gb338, 0, none⟩ (.int .i64 t333)).setCell ⟨gb338, 1, none⟩ (.int .i64 t334)).setCell ⟨gb338, 2, none⟩ (.int .i64 t335)).setCell ⟨gb338, 3, none⟩ (.int .i64 t336)).heap[gb317]? = some (.cells #[.int .i64 a0_0, .int .i64 a0_1, .int .i64 a0_2, .int .i64 a0_3, .int .i64 a0_4, .int .i64 a0_5] 25 (0, 0))) := ⟨by (with_reducible repeat (first | refine blk_drewN ?_ _ | refine blk_drew ?_ | refine blk_alloc ?_ _)); refine blk_far ?_ NB317_338.out _; (with_reducible repeat (first | refine blk_drewN ?_ _ | refine blk_drew ?_ | refine blk_alloc ?_ _)); refine blk_far ?_ NB317_338.out _; (with_reducible repeat (first | refine blk_drewN ?_ _ | refine blk_drew ?_ | refine blk_alloc ?_ _)); refine blk_far ?_ NB317_338.out _; (with_reducible repeat (first | refine blk_drewN ?_ _ | refine blk_drew ?_ | refine blk_alloc ?_ _)); refine blk_far ?_ NB317_338.out _; (with_reducible repeat (first | refine blk_drewN ?_ _ | refine blk_drew ?_ | refine blk_alloc ?_ _)); exact BK317.out⟩
                                have n1_ : Aside0 (((((w66.setCell ⟨gb338, 0, none⟩ (.int .i64 t333)).setCell ⟨gb338, 1, none⟩ (.int .i64 t334)).setCell ⟨gb338, 2, none⟩ (.int .i64 t335)).setCell ⟨gb338, 3, none⟩ (.int .i64 t336)).heap[gb323]? = some (.cells #[.int .i64 t318, .int .i64 t319, .int .i64 t320, .int .i64 t321] 27 (0, 0))) := ⟨by (with_reducible repeat (first | refine blk_drewN ?_ _ | refine blk_drew ?_ | refine blk_alloc ?_ _)); refine blk_far ?_ NB323_338.out _; (with_reducible repeat (first | refine blk_drewN ?_ _ | refine blk_drew ?_ | refine blk_alloc ?_ _)); refine blk_far ?_ NB323_338.out _; (with_reducible repeat (first | refine blk_drewN ?_ _ | refine blk_drew ?_ | refine blk_alloc ?_ _)); refine blk_far ?_ NB323_338.out _; (with_reducible repeat (first | refine blk_drewN ?_ _ | refine blk_drew ?_ | refine blk_alloc ?_ _)); refine blk_far ?_ NB323_338.out _; (with_reducible repeat (first | refine blk_drewN ?_ _ | refine blk_drew ?_ | refine blk_alloc ?_ _)); exact BK323.out⟩
                                have n2_ : Aside0 (((((w66.setCell ⟨gb338, 0, none⟩ (.int .i64 t333)).setCell ⟨gb338, 1, none⟩ (.int .i64 t334)).setCell ⟨gb338, 2, none⟩ (.int .i64 t335)).setCell ⟨gb338, 3, none⟩ (.int .i64 t336)).heap[gb329]? = some (.cells #[.int .i64 t324, .int .i64 t325, .int .i64 t326, .int .i64 t327] 27 (0, 0))) := ⟨by (with_reducible repeat (first | refine blk_drewN ?_ _ | refine blk_drew ?_ | refine blk_alloc ?_ _)); refine blk_far ?_ NB329_338.out _; (with_reducible repeat (first | refine blk_drewN ?_ _ | refine blk_drew ?_ | refine blk_alloc ?_ _)); refine blk_far ?_ NB329_338.out _; (with_reducible repeat (first | refine blk_drewN ?_ _ | refine blk_drew ?_ | refine blk_alloc ?_ _)); refine blk_far ?_ NB329_338.out _; (with_reducible repeat (first | refine blk_drewN ?_ _ | refine blk_drew ?_ | refine blk_alloc ?_ _)); refine blk_far ?_ NB329_338.out _; (with_reducible repeat (first | refine blk_drewN ?_ _ | refine blk_drew ?_ | refine blk_alloc ?_ _)); exact BK329.out⟩
                                have n3_ : Aside0 (((((w66.setCell ⟨gb338, 0, none⟩ (.int .i64 t333)).setCell ⟨gb338, 1, none⟩ (.int .i64 t334)).setCell ⟨gb338, 2, none⟩ (.int .i64 t335)).setCell ⟨gb338, 3, none⟩ (.int .i64 t336)).heap[gb338]? = some (.cells #[.int .i64 t333, .int .i64 t334, .int .i64 t335, .int .i64 t336] 27 (0, 0))) := ⟨by (with_reducible repeat (first | refine blk_drewN ?_ _ | refine blk_drew ?_ | refine blk_alloc ?_ _)); refine blk_put (cs := #[.int .i64 t333, .int .i64 t334, .int .i64 t335, .int .i64 0]) ?_ 3 _ rfl; (with_reducible repeat (first | refine blk_drewN ?_ _ | refine blk_drew ?_ | refine blk_alloc ?_ _)); refine blk_put (cs := #[.int .i64 t333, .int .i64 t334, .int .i64 0, .int .i64 0]) ?_ 2 _ rfl; (with_reducible repeat (first | refine blk_drewN ?_ _ | refine blk_drew ?_ | refine blk_alloc ?_ _)); refine blk_put (cs := #[.int .i64 t333, .int .i64 0, .int .i64 0, .int .i64 0]) ?_ 1 _ rfl; (with_reducible repeat (first | refine blk_drewN ?_ _ | refine blk_drew ?_ | refine blk_alloc ?_ _)); refine blk_put (cs := #[.int .i64 0, .int .i64 0, .int .i64 0, .int .i64 0]) ?_ 0 _ rfl; (with_reducible repeat (first | refine blk_drewN ?_ _ | refine blk_drew ?_ | refine blk_alloc ?_ _)); exact BK338.out⟩
                                have n4_ : Aside0 (Below w.heap.size w ((((w66.setCell ⟨gb338, 0, none⟩ (.int .i64 t333)).setCell ⟨gb338, 1, none⟩ (.int .i64 t334)).setCell ⟨gb338, 2, none⟩ (.int .i64 t335)).setCell ⟨gb338, 3, none⟩ (.int .i64 t336))) := ⟨by repeat (first | (with_reducible first | exact HB.out | apply below_alloc | apply pw_below_drewN | apply below_drew1 | refine below_set ?_ GE317.out | refine below_set ?_ GE323.out | refine below_set ?_ GE329.out | refine below_set ?_ GE338.out) | exact HB.out)⟩
                                (try clear BK317)
                                (try clear BK323)
                                (try clear BK329)
                                (try clear BK338)
                                (try clear HB)
                                generalize ((((w66.setCell ⟨gb338, 0, none⟩ (.int .i64 t333)).setCell ⟨gb338, 1, none⟩ (.int .i64 t334)).setCell ⟨gb338, 2, none⟩ (.int .i64 t335)).setCell ⟨gb338, 3, none⟩ (.int .i64 t336)) = w71 at n0_ n1_ n2_ n3_ n4_ ⊢
                                have BK317 := n0_
                                have BK323 := n1_
                                have BK329 := n2_
                                have BK338 := n3_
                                have HB := n4_
                                clear n0_ n1_ n2_ n3_ n4_
                                have n0_ := Aside0.mk (blk_drew BK317.out)
                                have n1_ := Aside0.mk (blk_drew BK323.out)
                                have n2_ := Aside0.mk (blk_drew BK329.out)
                                have n3_ := Aside0.mk (blk_drew BK338.out)
                                have n4_ := Aside0.mk (below_drew1 HB.out)
                                clear BK317
                                clear BK323
                                clear BK329
                                clear BK338
                                clear HB
                                have BK317 := n0_
                                have BK323 := n1_
                                have BK329 := n2_
                                have BK338 := n3_
                                have HB := n4_
                                clear n0_ n1_ n2_ n3_ n4_
                                refine start_ (n := 14) (S := fun w' => w'.cell? ⟨gb317, 0, none⟩ = some (.int .i64 a0_0) ∧ w'.cell? ⟨gb317, 1, none⟩ = some (.int .i64 a0_1) ∧ w'.cell? ⟨gb317, 2, none⟩ = some (.int .i64 a0_2) ∧ w'.cell? ⟨gb317, 3, none⟩ = some (.int .i64 a0_3) ∧ w'.cell? ⟨gb317, 4, none⟩ = some (.int .i64 a0_4) ∧ w'.cell? ⟨gb317, 5, none⟩ = some (.int .i64 a0_5)) (ds := []) #[false, false, false, false, false, false, false, false, false, false, false, false, false, false] (by kernel_rfl) rfl rfl ⟨(blk_cell BK317.out 0).trans rfl, (blk_cell BK317.out 1).trans rfl, (blk_cell BK317.out 2).trans rfl, (blk_cell BK317.out 3).trans rfl, (blk_cell BK317.out 4).trans rfl, (blk_cell BK317.out 5).trans rfl⟩ (fun hHeld => ?_); refine with_tabW mapsheetslaw40_SheetgridShares.tab11 mapsheetslaw40_SheetgridShares.bits11 (fun HT_ HW_ => ?_)
                                generalize w71.drew = w72 at BK317 BK323 BK329 BK338 HB hHeld ⊢
                                refine pure_ (i := 1) (N := some 90) (v := ?_) (a' := ?_) #[false, true, false, false, false, false, false, false, false, false, false, false, false, false] rfl rfl (any_of HT_.out (by kernel_rfl)) (fun _ _ _ h => h) (Or.inl ⟨by rfl, ?_⟩) ?_ ?_
                                rotate_left
                                · intro w'
                                  go_simp
                                  with_reducible rfl
                                rotate_left
                                · simp only [Act.put, List.setIfInBounds_toArray, List.set_cons_zero, List.set_cons_succ, i64_w, i32_w]
                                  rfl
                                refine pure_ (i := 3) (N := some 92) (v := ?_) (a' := ?_) #[false, true, false, true, false, false, false, false, false, false, false, false, false, false] rfl rfl (any_of HT_.out (by kernel_rfl)) (fun _ _ _ h => h) (Or.inl ⟨by rfl, ?_⟩) ?_ ?_
                                rotate_left
                                · intro w'
                                  go_simp
                                  with_reducible rfl
                                rotate_left
                                · simp only [Act.put, List.setIfInBounds_toArray, List.set_cons_zero, List.set_cons_succ, i64_w, i32_w]
                                  rfl
                                refine pure_ (i := 4) (N := some 93) (v := ?_) (a' := ?_) #[false, true, false, true, true, false, false, false, false, false, false, false, false, false] rfl rfl (any_of HT_.out (by kernel_rfl)) (fun _ _ _ h => h) (Or.inl ⟨by rfl, ?_⟩) ?_ ?_
                                rotate_left
                                · intro w'
                                  go_simp
                                  with_reducible rfl
                                rotate_left
                                · simp only [Act.put, List.setIfInBounds_toArray, List.set_cons_zero, List.set_cons_succ, i64_w, i32_w]
                                  rfl
                                refine pure_ (i := 5) (N := some 94) (v := ?_) (a' := ?_) #[false, true, false, true, true, true, false, false, false, false, false, false, false, false] rfl rfl (any_of HT_.out (by kernel_rfl)) (fun _ _ _ h => h) (Or.inl ⟨by rfl, ?_⟩) ?_ ?_
                                rotate_left
                                · intro w'
                                  go_simp
                                  with_reducible rfl
                                rotate_left
                                · simp only [Act.put, List.setIfInBounds_toArray, List.set_cons_zero, List.set_cons_succ, i64_w, i32_w]
                                  rfl
                                refine take_ (i := 0) (N := some 89) (v := ?_) (a' := ?_) #[true, true, false, true, true, true, false, false, false, false, false, false, false, false] rfl rfl (take_ofW HT_.out HW_.out (by kernel_rfl)) (fun _ _ _ h => h) (Or.inl ⟨by rfl, ?_⟩) hHeld ?_ ?_
                                rotate_left
                                · rintro w' ⟨s0, s1, s2, s3, s4, s5⟩
                                  go_simp
                                  with_reducible rfl
                                rotate_left
                                · simp only [Act.put, List.setIfInBounds_toArray, List.set_cons_zero, List.set_cons_succ, i64_w, i32_w]
                                  rfl
                                refine one_ (i := 2) (N := some 91) #[true, true, true, true, true, true, false, false, false, false, false, false, false, false] rfl rfl (one_of HT_.out (by kernel_rfl)) (by decide) (fun K hK => ?_)
                                refine Kd.R_lit_step (Kd.int .i64) _ 3 ?hg (N := 91) ?hd (xs := ([3, 4, 1, 2] : List Int)) (inner := [.int .i64 3, .int .i64 4, .int .i64 1, .int .i64 2]) (ok := fun _ => True) (okp := fun _ => True) ?hr ?hp (fun _ hk => hk) trivial (Below.refl _ _) (Nat.le_refl _) (by simp) ?_; (case hd => rfl); (case hg => rfl); (case hr => first | (go_simp; done) | (go_simp; rfl)); (case hp => exact (Reps.one (show Kd.M (Kd.int .i64) _ _ _ 3 [.int .i64 3] from rfl) (Reps.one (show Kd.M (Kd.int .i64) _ _ _ 4 [.int .i64 4] from rfl) (Reps.one (show Kd.M (Kd.int .i64) _ _ _ 1 [.int .i64 1] from rfl) (Reps.one (show Kd.M (Kd.int .i64) _ _ _ 2 [.int .i64 2] from rfl) (Reps.none _ _))))))
                                intro v340 w73 ho74 hb hg_ hnew_
                                clear hg_ hnew_
                                (first | rw [← Ny339.out] at ho74 | (simp only [Int.reduceToNat] at ho74; rw [← Ny339.out] at ho74))
                                have n0_ := Aside0.mk (Kd.R_lower ho74 (below_size (by repeat (first | (with_reducible first | exact HB.out | apply below_alloc | apply pw_below_drewN | apply below_drew1 | refine below_set ?_ GE317.out | refine below_set ?_ GE323.out | refine below_set ?_ GE329.out | refine below_set ?_ GE338.out) | exact HB.out))))
                                have n1_ := Aside0.mk (blk_below (g := gb317) (o := .cells #[.int .i64 a0_0, .int .i64 a0_1, .int .i64 a0_2, .int .i64 a0_3, .int .i64 a0_4, .int .i64 a0_5] 25 (0, 0)) (by (with_reducible repeat (first | refine blk_drewN ?_ _ | refine blk_drew ?_ | refine blk_alloc ?_ _)); exact BK317.out) hb)
                                have n2_ := Aside0.mk (blk_below (g := gb323) (o := .cells #[.int .i64 t318, .int .i64 t319, .int .i64 t320, .int .i64 t321] 27 (0, 0)) (by (with_reducible repeat (first | refine blk_drewN ?_ _ | refine blk_drew ?_ | refine blk_alloc ?_ _)); exact BK323.out) hb)
                                have n3_ := Aside0.mk (blk_below (g := gb329) (o := .cells #[.int .i64 t324, .int .i64 t325, .int .i64 t326, .int .i64 t327] 27 (0, 0)) (by (with_reducible repeat (first | refine blk_drewN ?_ _ | refine blk_drew ?_ | refine blk_alloc ?_ _)); exact BK329.out) hb)
                                have n4_ := Aside0.mk (blk_below (g := gb338) (o := .cells #[.int .i64 t333, .int .i64 t334, .int .i64 t335, .int .i64 t336] 27 (0, 0)) (by (with_reducible repeat (first | refine blk_drewN ?_ _ | refine blk_drew ?_ | refine blk_alloc ?_ _)); exact BK338.out) hb)
                                have n5_ := Aside0.mk (below_step (by repeat (first | (with_reducible first | exact HB.out | apply below_alloc | apply pw_below_drewN | apply below_drew1 | refine below_set ?_ GE317.out | refine below_set ?_ GE323.out | refine below_set ?_ GE329.out | refine below_set ?_ GE338.out) | exact HB.out)) hb)
                                clear BK317
                                clear BK323
                                clear BK329
                                clear BK338
                                clear HB
                                have HO341 := n0_
                                have BK317 := n1_
                                have BK323 := n2_
                                have BK329 := n3_
                                have BK338 := n4_
                                have HB := n5_
                                clear n0_ n1_ n2_ n3_ n4_ n5_
                                clear hb ho74
                                obtain ⟨Ao75, co75, eo75⟩ := Kd.R_slice HO341.out
                                subst eo75
                                obtain ⟨ado75, fo75, _⟩ := Kd.at_int (Kd.R_reads' HO341.out).2.2 0 (by decide) (by rw [Ny339.out]; simp)
                                cases fo75
                                refine hK.out _ _ ⟨(blk_cell BK317.out 0).trans rfl, (blk_cell BK317.out 1).trans rfl, (blk_cell BK317.out 2).trans rfl, (blk_cell BK317.out 3).trans rfl, (blk_cell BK317.out 4).trans rfl, (blk_cell BK317.out 5).trans rfl⟩ (fun hHeld => ?_)
                                clear hK K
                                refine norm_ (a' := ?_) ?_ ?_
                                rotate_left
                                · show Act.put _ (some 91) _ = _
                                  simp only [Act.put, List.setIfInBounds_toArray, List.set_cons_zero, List.set_cons_succ, i64_w, i32_w]
                                  rfl
                                refine pure_ (i := 6) (N := some 95) (v := ?_) (a' := ?_) #[true, true, true, true, true, true, true, false, false, false, false, false, false, false] rfl rfl (any_of HT_.out (by kernel_rfl)) (fun _ _ _ h => h) (Or.inl ⟨by rfl, ?_⟩) ?_ ?_
                                rotate_left
                                · intro w'
                                  go_simp
                                  with_reducible rfl
                                rotate_left
                                · simp only [Act.put, List.setIfInBounds_toArray, List.set_cons_zero, List.set_cons_succ, i64_w, i32_w]
                                  rfl
                                refine one_ (i := 7) (N := some 96) #[true, true, true, true, true, true, true, true, false, false, false, false, false, false] rfl rfl (one_of HT_.out (by kernel_rfl)) (by decide) (fun K hK => ?_)
                                (have p342 : 0 ≤ ((ji45) : Int) := of_decide_eq_true (by first | (with_reducible assumption) | assumption); have q342 : (ji45) < (y339.length : Int) := of_decide_eq_true (by first | (with_reducible assumption) | assumption); obtain ⟨ad342, e342, hx342_0⟩ := Kd.at_int (Kd.R_reads' HO341.out).2.2 (ji45) p342 q342; obtain rfl : ado75 = ad342 := (by injection e342))
                                refine value_ (w1 := ?_) (v := ?_) (by rfl) rfl ?_ ?_
                                rotate_left 2
                                · go_simp
                                  constructor
                                  · rfl
                                  · rfl
                                clear hx342_0
                                refine hK.out _ _ ⟨(blk_cell BK317.out 0).trans rfl, (blk_cell BK317.out 1).trans rfl, (blk_cell BK317.out 2).trans rfl, (blk_cell BK317.out 3).trans rfl, (blk_cell BK317.out 4).trans rfl, (blk_cell BK317.out 5).trans rfl⟩ (fun hHeld => ?_)
                                clear hK K
                                refine norm_ (a' := ?_) ?_ ?_
                                rotate_left
                                · show Act.put _ (some 96) _ = _
                                  simp only [Act.put, List.setIfInBounds_toArray, List.set_cons_zero, List.set_cons_succ, i64_w, i32_w]
                                  rfl
                                refine one_ (i := 8) (N := some 97) #[true, true, true, true, true, true, true, true, true, false, false, false, false, false] rfl rfl (one_of HT_.out (by kernel_rfl)) (by decide) (fun K hK => ?_)
                                refine goes_ Try.func20 (by kernel_rfl) rfl #[.agg #[.int .i64 a0_0, .int .i64 a0_1, .int .i64 a0_2, .int .i64 a0_3, .int .i64 a0_4, .int .i64 a0_5], .int .i64 t331, .int .i64 (rd y339 (ji45))] (by rfl) rfl rfl (by (try simp only [List.map_toArray, List.map_cons, List.map_nil]); first | done | (simp only [hji45]; rfl) | rfl | (simp only [List.length_drop, List.length_take]; rfl)) ?_
                                with_reducible refine (sheetgrid_Neighbor.calls kj23 a0_0 a0_1 a0_2 a0_3 a0_4 a0_5 t331 (rd y339 (ji45)) t343 true _ A48.out).mono ?_
                                rintro e w76 ⟨rfl, hb⟩
                                refine ⟨_, rfl, ?_⟩
                                have n0_ := Aside0.mk (Kd.R_below (by (with_reducible repeat (first | apply Kd.R_alloc | apply Kd.R_drewN | apply Kd.R_drew)); exact HO341.out) hb)
                                have n1_ := Aside0.mk (blk_below (g := gb317) (o := .cells #[.int .i64 a0_0, .int .i64 a0_1, .int .i64 a0_2, .int .i64 a0_3, .int .i64 a0_4, .int .i64 a0_5] 25 (0, 0)) (by (with_reducible repeat (first | refine blk_drewN ?_ _ | refine blk_drew ?_ | refine blk_alloc ?_ _)); exact BK317.out) hb)
                                have n2_ := Aside0.mk (blk_below (g := gb323) (o := .cells #[.int .i64 t318, .int .i64 t319, .int .i64 t320, .int .i64 t321] 27 (0, 0)) (by (with_reducible repeat (first | refine blk_drewN ?_ _ | refine blk_drew ?_ | refine blk_alloc ?_ _)); exact BK323.out) hb)
                                have n3_ := Aside0.mk (blk_below (g := gb329) (o := .cells #[.int .i64 t324, .int .i64 t325, .int .i64 t326, .int .i64 t327] 27 (0, 0)) (by (with_reducible repeat (first | refine blk_drewN ?_ _ | refine blk_drew ?_ | refine blk_alloc ?_ _)); exact BK329.out) hb)
                                have n4_ := Aside0.mk (blk_below (g := gb338) (o := .cells #[.int .i64 t333, .int .i64 t334, .int .i64 t335, .int .i64 t336] 27 (0, 0)) (by (with_reducible repeat (first | refine blk_drewN ?_ _ | refine blk_drew ?_ | refine blk_alloc ?_ _)); exact BK338.out) hb)
                                have n5_ := Aside0.mk (below_step (by repeat (first | (with_reducible first | exact HB.out | apply below_alloc | apply pw_below_drewN | apply below_drew1 | refine below_set ?_ GE317.out | refine below_set ?_ GE323.out | refine below_set ?_ GE329.out | refine below_set ?_ GE338.out) | exact HB.out)) hb)
                                clear HO341
                                clear BK317
                                clear BK323
                                clear BK329
                                clear BK338
                                clear HB
                                have HO341 := n0_
                                have BK317 := n1_
                                have BK323 := n2_
                                have BK329 := n3_
                                have BK338 := n4_
                                have HB := n5_
                                clear n0_ n1_ n2_ n3_ n4_ n5_
                                (try clear hb)
                                (try clear hb2)
                                (try clear hk)
                                (try clear hi)
                                refine hK.out _ _ ⟨(blk_cell BK317.out 0).trans rfl, (blk_cell BK317.out 1).trans rfl, (blk_cell BK317.out 2).trans rfl, (blk_cell BK317.out 3).trans rfl, (blk_cell BK317.out 4).trans rfl, (blk_cell BK317.out 5).trans rfl⟩ (fun hHeld => ?_)
                                clear hK K
                                refine norm_ (a' := ?_) ?_ ?_
                                rotate_left
                                · show Act.put _ (some 97) _ = _
                                  simp only [Act.put, List.setIfInBounds_toArray, List.set_cons_zero, List.set_cons_succ, i64_w, i32_w]
                                  rfl
                                refine pure_ (i := 9) (N := some 88) (v := ?_) (a' := ?_) #[true, true, true, true, true, true, true, true, true, true, false, false, false, false] rfl rfl (any_of HT_.out (by kernel_rfl)) (fun _ _ _ h => h) (Or.inl ⟨by rfl, ?_⟩) ?_ ?_
                                rotate_left
                                · intro w'
                                  go_simp
                                  with_reducible rfl
                                rotate_left
                                · simp only [Act.put, List.setIfInBounds_toArray, List.set_cons_zero, List.set_cons_succ, i64_w, i32_w]
                                  rfl
                                refine pure_ (i := 10) (N := some 98) (v := ?_) (a' := ?_) #[true, true, true, true, true, true, true, true, true, true, true, false, false, false] rfl rfl (any_of HT_.out (by kernel_rfl)) (fun _ _ _ h => h) (Or.inl ⟨by rfl, ?_⟩) ?_ ?_
                                rotate_left
                                · intro w'
                                  go_simp
                                  with_reducible rfl
                                rotate_left
                                · simp only [Act.put, List.setIfInBounds_toArray, List.set_cons_zero, List.set_cons_succ, i64_w, i32_w]
                                  rfl
                                refine pure_ (i := 11) (N := some 99) (v := ?_) (a' := ?_) #[true, true, true, true, true, true, true, true, true, true, true, true, false, false] rfl rfl (any_of HT_.out (by kernel_rfl)) (fun _ _ _ h => h) (Or.inl ⟨by rfl, ?_⟩) ?_ ?_
                                rotate_left
                                · intro w'
                                  go_simp
                                  with_reducible rfl
                                rotate_left
                                · simp only [Act.put, List.setIfInBounds_toArray, List.set_cons_zero, List.set_cons_succ, i64_w, i32_w]
                                  rfl
                                refine pure_ (i := 12) (N := some 17) (v := ?_) (a' := ?_) #[true, true, true, true, true, true, true, true, true, true, true, true, true, false] rfl rfl (any_of HT_.out (by kernel_rfl)) (fun _ _ _ h => h) (Or.inl ⟨by rfl, ?_⟩) ?_ ?_
                                rotate_left
                                · intro w'
                                  go_simp
                                  with_reducible rfl
                                rotate_left
                                · simp only [Act.put, List.setIfInBounds_toArray, List.set_cons_zero, List.set_cons_succ, i64_w, i32_w]
                                  rfl
                                refine pure_ (i := 13) (N := some 18) (v := ?_) (a' := ?_) #[true, true, true, true, true, true, true, true, true, true, true, true, true, true] rfl rfl (any_of HT_.out (by kernel_rfl)) (fun _ _ _ h => h) (Or.inl ⟨by rfl, ?_⟩) ?_ ?_
                                rotate_left
                                · intro w'
                                  go_simp
                                  with_reducible rfl
                                rotate_left
                                · simp only [Act.put, List.setIfInBounds_toArray, List.set_cons_zero, List.set_cons_succ, i64_w, i32_w]
                                  rfl
                                refine done_ (done_of HT_.out (by kernel_rfl)) ?_
                                have hnb77 := NB323_329.out
                                have hnc77 := NB329_323.out
                                have hcz78_0 : w76.cell? ⟨gb323, 0, none⟩ = some (.int .i64 t318) := (blk_cell BK323.out 0).trans rfl
                                have hcz78_1 : w76.cell? ⟨gb323, 1, none⟩ = some (.int .i64 t319) := (blk_cell BK323.out 1).trans rfl
                                have hcz78_2 : w76.cell? ⟨gb323, 2, none⟩ = some (.int .i64 t320) := (blk_cell BK323.out 2).trans rfl
                                have hcz78_3 : w76.cell? ⟨gb323, 3, none⟩ = some (.int .i64 t321) := (blk_cell BK323.out 3).trans rfl
                                have hfz78_0 := blk_frozen BK323.out 0
                                have hfz78_1 := blk_frozen BK323.out 1
                                have hfz78_2 := blk_frozen BK323.out 2
                                have hfz78_3 := blk_frozen BK323.out 3
                                have hcz79_0 : w76.cell? ⟨gb338, 0, none⟩ = some (.int .i64 t333) := (blk_cell BK338.out 0).trans rfl
                                have hcz79_1 : w76.cell? ⟨gb338, 1, none⟩ = some (.int .i64 t334) := (blk_cell BK338.out 1).trans rfl
                                have hcz79_2 : w76.cell? ⟨gb338, 2, none⟩ = some (.int .i64 t335) := (blk_cell BK338.out 2).trans rfl
                                have hcz79_3 : w76.cell? ⟨gb338, 3, none⟩ = some (.int .i64 t336) := (blk_cell BK338.out 3).trans rfl
                                have hfz79_0 := blk_frozen BK338.out 0
                                have hfz79_1 := blk_frozen BK338.out 1
                                have hfz79_2 := blk_frozen BK338.out 2
                                have hfz79_3 := blk_frozen BK338.out 3
                                try go_wp2_with (first | ((with_reducible refine gate_dst (N := 19) rfl ?_); (try (refine gate_guard (by rfl) ?_; dsimp only)); refine box_event ?hg (N := 19) ?hd (cs := #[.int .i64 0, .int .i64 0, .int .i64 0, .int .i64 0]) (t := 27) ?hr ?_; (case hd => rfl); (case hg => rfl); (case hr => first | (go_simp; done) | (go_simp; rfl)); intro gb345 hg w80 hbox hb; have n0_ := Aside0.mk (Kd.R_below (by (with_reducible repeat (first | apply Kd.R_alloc | apply Kd.R_drewN | apply Kd.R_drew)); exact HO341.out) hb); have n1_ := Aside0.mk (blk_below (g := gb317) (o := .cells #[.int .i64 a0_0, .int .i64 a0_1, .int .i64 a0_2, .int .i64 a0_3, .int .i64 a0_4, .int .i64 a0_5] 25 (0, 0)) (by (with_reducible repeat (first | refine blk_drewN ?_ _ | refine blk_drew ?_ | refine blk_alloc ?_ _)); exact BK317.out) hb); have n2_ := Aside0.mk (blk_below (g := gb323) (o := .cells #[.int .i64 t318, .int .i64 t319, .int .i64 t320, .int .i64 t321] 27 (0, 0)) (by (with_reducible repeat (first | refine blk_drewN ?_ _ | refine blk_drew ?_ | refine blk_alloc ?_ _)); exact BK323.out) hb); have n3_ := Aside0.mk (blk_below (g := gb329) (o := .cells #[.int .i64 t324, .int .i64 t325, .int .i64 t326, .int .i64 t327] 27 (0, 0)) (by (with_reducible repeat (first | refine blk_drewN ?_ _ | refine blk_drew ?_ | refine blk_alloc ?_ _)); exact BK329.out) hb); have n4_ := Aside0.mk (blk_below (g := gb338) (o := .cells #[.int .i64 t333, .int .i64 t334, .int .i64 t335, .int .i64 t336] 27 (0, 0)) (by (with_reducible repeat (first | refine blk_drewN ?_ _ | refine blk_drew ?_ | refine blk_alloc ?_ _)); exact BK338.out) hb); have n5_ := Aside0.mk (below_step (by repeat (first | (with_reducible first | exact HB.out | apply below_alloc | apply pw_below_drewN | apply below_drew1 | refine below_set ?_ GE317.out | refine below_set ?_ GE323.out | refine below_set ?_ GE329.out | refine below_set ?_ GE338.out) | exact HB.out)) hb); have n6_ := Aside0.mk (hbox); have n7_ := Aside0.mk ((by rw [hg]; exact (below_size (by repeat (first | (with_reducible first | exact HB.out | apply below_alloc | apply pw_below_drewN | apply below_drew1 | refine below_set ?_ GE317.out | refine below_set ?_ GE323.out | refine below_set ?_ GE329.out | refine below_set ?_ GE338.out) | exact HB.out))) : w.heap.size ≤ gb345)); have n8_ := Aside0.mk ((by rw [hg]; exact (below_size (by repeat (first | (with_reducible first | exact HB.out | apply below_alloc | apply pw_below_drewN | apply below_drew1 | refine below_set ?_ GE317.out | refine below_set ?_ GE323.out | refine below_set ?_ GE329.out | refine below_set ?_ GE338.out) | exact HB.out))) : w.heap.size ≤ gb345)); have n9_ := Aside0.mk ((by rw [hg]; exact Nat.ne_of_lt (blk_lt (g := gb317) (o := .cells #[.int .i64 a0_0, .int .i64 a0_1, .int .i64 a0_2, .int .i64 a0_3, .int .i64 a0_4, .int .i64 a0_5] 25 (0, 0)) (by (with_reducible repeat (first | refine blk_drewN ?_ _ | refine blk_drew ?_ | refine blk_alloc ?_ _)); exact BK317.out)) : gb317 ≠ gb345)); have n10_ := Aside0.mk ((by rw [hg]; exact Nat.ne_of_gt (blk_lt (g := gb317) (o := .cells #[.int .i64 a0_0, .int .i64 a0_1, .int .i64 a0_2, .int .i64 a0_3, .int .i64 a0_4, .int .i64 a0_5] 25 (0, 0)) (by (with_reducible repeat (first | refine blk_drewN ?_ _ | refine blk_drew ?_ | refine blk_alloc ?_ _)); exact BK317.out)) : gb345 ≠ gb317)); have n11_ := Aside0.mk ((by rw [hg]; exact Nat.ne_of_lt (blk_lt (g := gb323) (o := .cells #[.int .i64 t318, .int .i64 t319, .int .i64 t320, .int .i64 t321] 27 (0, 0)) (by (with_reducible repeat (first | refine blk_drewN ?_ _ | refine blk_drew ?_ | refine blk_alloc ?_ _)); exact BK323.out)) : gb323 ≠ gb345)); have n12_ := Aside0.mk ((by rw [hg]; exact Nat.ne_of_gt (blk_lt (g := gb323) (o := .cells #[.int .i64 t318, .int .i64 t319, .int .i64 t320, .int .i64 t321] 27 (0, 0)) (by (with_reducible repeat (first | refine blk_drewN ?_ _ | refine blk_drew ?_ | refine blk_alloc ?_ _)); exact BK323.out)) : gb345 ≠ gb323)); have n13_ := Aside0.mk ((by rw [hg]; exact Nat.ne_of_lt (blk_lt (g := gb329) (o := .cells #[.int .i64 t324, .int .i64 t325, .int .i64 t326, .int .i64 t327] 27 (0, 0)) (by (with_reducible repeat (first | refine blk_drewN ?_ _ | refine blk_drew ?_ | refine blk_alloc ?_ _)); exact BK329.out)) : gb329 ≠ gb345)); have n14_ := Aside0.mk ((by rw [hg]; exact Nat.ne_of_gt (blk_lt (g := gb329) (o := .cells #[.int .i64 t324, .int .i64 t325, .int .i64 t326, .int .i64 t327] 27 (0, 0)) (by (with_reducible repeat (first | refine blk_drewN ?_ _ | refine blk_drew ?_ | refine blk_alloc ?_ _)); exact BK329.out)) : gb345 ≠ gb329)); have n15_ := Aside0.mk ((by rw [hg]; exact Nat.ne_of_lt (blk_lt (g := gb338) (o := .cells #[.int .i64 t333, .int .i64 t334, .int .i64 t335, .int .i64 t336] 27 (0, 0)) (by (with_reducible repeat (first | refine blk_drewN ?_ _ | refine blk_drew ?_ | refine blk_alloc ?_ _)); exact BK338.out)) : gb338 ≠ gb345)); have n16_ := Aside0.mk ((by rw [hg]; exact Nat.ne_of_gt (blk_lt (g := gb338) (o := .cells #[.int .i64 t333, .int .i64 t334, .int .i64 t335, .int .i64 t336] 27 (0, 0)) (by (with_reducible repeat (first | refine blk_drewN ?_ _ | refine blk_drew ?_ | refine blk_alloc ?_ _)); exact BK338.out)) : gb345 ≠ gb338)); clear HO341; clear BK317; clear BK323; clear BK329; clear BK338; clear HB; have HO341 := n0_; have BK317 := n1_; have BK323 := n2_; have BK329 := n3_; have BK338 := n4_; have HB := n5_; have BK345 := n6_; have GW345 := n7_; have GE345 := n8_; have NB317_345 := n9_; have NB345_317 := n10_; have NB323_345 := n11_; have NB345_323 := n12_; have NB329_345 := n13_; have NB345_329 := n14_; have NB338_345 := n15_; have NB345_338 := n16_; clear n0_ n1_ n2_ n3_ n4_ n5_ n6_ n7_ n8_ n9_ n10_ n11_ n12_ n13_ n14_ n15_ n16_; clear hb hbox hg; have hnb81 := NB345_317.out; have hnc81 := NB317_345.out; have hnb82 := NB345_323.out; have hnc82 := NB323_345.out; have hnb83 := NB345_329.out; have hnc83 := NB329_345.out; have hnb84 := NB345_338.out; have hnc84 := NB338_345.out; have hcz85_0 : w80.cell? ⟨gb345, 0, none⟩ = some (.int .i64 0) := (blk_cell BK345.out 0).trans rfl; have hcz85_1 : w80.cell? ⟨gb345, 1, none⟩ = some (.int .i64 0) := (blk_cell BK345.out 1).trans rfl; have hcz85_2 : w80.cell? ⟨gb345, 2, none⟩ = some (.int .i64 0) := (blk_cell BK345.out 2).trans rfl; have hcz85_3 : w80.cell? ⟨gb345, 3, none⟩ = some (.int .i64 0) := (blk_cell BK345.out 3).trans rfl; have hfz85_0 := blk_frozen BK345.out 0; have hfz85_1 := blk_frozen BK345.out 1; have hfz85_2 := blk_frozen BK345.out 2; have hfz85_3 := blk_frozen BK345.out 3) | ((with_reducible refine gate_callee (f := 12) rfl ?_); refine goesL_ (some 121) rfl rfl Try.func12 (by kernel_rfl) rfl #[] rfl (by (try simp only [List.map_toArray, List.map_cons, List.map_nil]); first | done | rfl | (simp only [List.length_drop, List.length_take]; rfl)) ?_; (with_reducible refine (mapsheetslaw40_awake.calls kj23  true _ A53.out).mono ?_); rintro e w86 ⟨rfl, hb⟩; refine ⟨_, rfl, ?_⟩; have n0_ := Aside0.mk (Kd.R_below (by (with_reducible repeat (first | apply Kd.R_alloc | apply Kd.R_drewN | apply Kd.R_drew)); exact (Kd.R_mono (Kd.R_far (p := ⟨gb345, 3, none⟩) (Kd.R_far (p := ⟨gb345, 2, none⟩) (Kd.R_far (p := ⟨gb345, 1, none⟩) (Kd.R_far (p := ⟨gb345, 0, none⟩) (Kd.R_types HO341.out BK345.out (by decide)) (fun _ hk => hk.2) (.int .i64 ji49)) (fun _ hk => hk.2) (.int .i64 ji50)) (fun _ hk => hk.2) (.int .i64 ji51)) (fun _ hk => hk.2) (.int .i64 ji52)) (fun _ h_ => h_.1))) hb); have n1_ := Aside0.mk (blk_below (g := gb317) (o := .cells #[.int .i64 a0_0, .int .i64 a0_1, .int .i64 a0_2, .int .i64 a0_3, .int .i64 a0_4, .int .i64 a0_5] 25 (0, 0)) (by (with_reducible repeat (first | refine blk_drewN ?_ _ | refine blk_drew ?_ | refine blk_alloc ?_ _)); refine blk_far ?_ NB317_345.out _; (with_reducible repeat (first | refine blk_drewN ?_ _ | refine blk_drew ?_ | refine blk_alloc ?_ _)); refine blk_far ?_ NB317_345.out _; (with_reducible repeat (first | refine blk_drewN ?_ _ | refine blk_drew ?_ | refine blk_alloc ?_ _)); refine blk_far ?_ NB317_345.out _; (with_reducible repeat (first | refine blk_drewN ?_ _ | refine blk_drew ?_ | refine blk_alloc ?_ _)); refine blk_far ?_ NB317_345.out _; (with_reducible repeat (first | refine blk_drewN ?_ _ | refine blk_drew ?_ | refine blk_alloc ?_ _)); exact BK317.out) hb); have n2_ := Aside0.mk (blk_below (g := gb323) (o := .cells #[.int .i64 t318, .int .i64 t319, .int .i64 t320, .int .i64 t321] 27 (0, 0)) (by (with_reducible repeat (first | refine blk_drewN ?_ _ | refine blk_drew ?_ | refine blk_alloc ?_ _)); refine blk_far ?_ NB323_345.out _; (with_reducible repeat (first | refine blk_drewN ?_ _ | refine blk_drew ?_ | refine blk_alloc ?_ _)); refine blk_far ?_ NB323_345.out _; (with_reducible repeat (first | refine blk_drewN ?_ _ | refine blk_drew ?_ | refine blk_alloc ?_ _)); refine blk_far ?_ NB323_345.out _; (with_reducible repeat (first | refine blk_drewN ?_ _ | refine blk_drew ?_ | refine blk_alloc ?_ _)); refine blk_far ?_ NB323_345.out _; (with_reducible repeat (first | refine blk_drewN ?_ _ | refine blk_drew ?_ | refine blk_alloc ?_ _)); exact BK323.out) hb); have n3_ := Aside0.mk (blk_below (g := gb329) (o := .cells #[.int .i64 t324, .int .i64 t325, .int .i64 t326, .int .i64 t327] 27 (0, 0)) (by (with_reducible repeat (first | refine blk_drewN ?_ _ | refine blk_drew ?_ | refine blk_alloc ?_ _)); refine blk_far ?_ NB329_345.out _; (with_reducible repeat (first | refine blk_drewN ?_ _ | refine blk_drew ?_ | refine blk_alloc ?_ _)); refine blk_far ?_ NB329_345.out _; (with_reducible repeat (first | refine blk_drewN ?_ _ | refine blk_drew ?_ | refine blk_alloc ?_ _)); refine blk_far ?_ NB329_345.out _; (with_reducible repeat (first | refine blk_drewN ?_ _ | refine blk_drew ?_ | refine blk_alloc ?_ _)); refine blk_far ?_ NB329_345.out _; (with_reducible repeat (first | refine blk_drewN ?_ _ | refine blk_drew ?_ | refine blk_alloc ?_ _)); exact BK329.out) hb); have n4_ := Aside0.mk (blk_below (g := gb338) (o := .cells #[.int .i64 t333, .int .i64 t334, .int .i64 t335, .int .i64 t336] 27 (0, 0)) (by (with_reducible repeat (first | refine blk_drewN ?_ _ | refine blk_drew ?_ | refine blk_alloc ?_ _)); refine blk_far ?_ NB338_345.out _; (with_reducible repeat (first | refine blk_drewN ?_ _ | refine blk_drew ?_ | refine blk_alloc ?_ _)); refine blk_far ?_ NB338_345.out _; (with_reducible repeat (first | refine blk_drewN ?_ _ | refine blk_drew ?_ | refine blk_alloc ?_ _)); refine blk_far ?_ NB338_345.out _; (with_reducible repeat (first | refine blk_drewN ?_ _ | refine blk_drew ?_ | refine blk_alloc ?_ _)); refine blk_far ?_ NB338_345.out _; (with_reducible repeat (first | refine blk_drewN ?_ _ | refine blk_drew ?_ | refine blk_alloc ?_ _)); exact BK338.out) hb); have n5_ := Aside0.mk (blk_below (g := gb345) (o := .cells #[.int .i64 ji49, .int .i64 ji50, .int .i64 ji51, .int .i64 ji52] 27 (0, 0)) (by (with_reducible repeat (first | refine blk_drewN ?_ _ | refine blk_drew ?_ | refine blk_alloc ?_ _)); refine blk_put (cs := #[.int .i64 ji49, .int .i64 ji50, .int .i64 ji51, .int .i64 0]) ?_ 3 _ rfl; (with_reducible repeat (first | refine blk_drewN ?_ _ | refine blk_drew ?_ | refine blk_alloc ?_ _)); refine blk_put (cs := #[.int .i64 ji49, .int .i64 ji50, .int .i64 0, .int .i64 0]) ?_ 2 _ rfl; (with_reducible repeat (first | refine blk_drewN ?_ _ | refine blk_drew ?_ | refine blk_alloc ?_ _)); refine blk_put (cs := #[.int .i64 ji49, .int .i64 0, .int .i64 0, .int .i64 0]) ?_ 1 _ rfl; (with_reducible repeat (first | refine blk_drewN ?_ _ | refine blk_drew ?_ | refine blk_alloc ?_ _)); refine blk_put (cs := #[.int .i64 0, .int .i64 0, .int .i64 0, .int .i64 0]) ?_ 0 _ rfl; (with_reducible repeat (first | refine blk_drewN ?_ _ | refine blk_drew ?_ | refine blk_alloc ?_ _)); exact BK345.out) hb); have n6_ := Aside0.mk (below_step (by repeat (first | (with_reducible first | exact HB.out | apply below_alloc | apply pw_below_drewN | apply below_drew1 | refine below_set ?_ GE317.out | refine below_set ?_ GE323.out | refine below_set ?_ GE329.out | refine below_set ?_ GE338.out | refine below_set ?_ GE345.out) | exact HB.out)) hb); clear HO341; clear BK317; clear BK323; clear BK329; clear BK338; clear BK345; clear HB; have HO341 := n0_; have BK317 := n1_; have BK323 := n2_; have BK329 := n3_; have BK338 := n4_; have BK345 := n5_; have HB := n6_; clear n0_ n1_ n2_ n3_ n4_ n5_ n6_; (try clear hb); (try clear hb2); (try clear hk); (try clear hi); have hcz87_0 : w86.cell? ⟨gb345, 0, none⟩ = some (.int .i64 ji49) := (blk_cell BK345.out 0).trans rfl; have hcz87_1 : w86.cell? ⟨gb345, 1, none⟩ = some (.int .i64 ji50) := (blk_cell BK345.out 1).trans rfl; have hcz87_2 : w86.cell? ⟨gb345, 2, none⟩ = some (.int .i64 ji51) := (blk_cell BK345.out 2).trans rfl; have hcz87_3 : w86.cell? ⟨gb345, 3, none⟩ = some (.int .i64 ji52) := (blk_cell BK345.out 3).trans rfl; have hfz87_0 := blk_frozen BK345.out 0; have hfz87_1 := blk_frozen BK345.out 1; have hfz87_2 := blk_frozen BK345.out 2; have hfz87_3 := blk_frozen BK345.out 3; have hcz88_0 : w86.cell? ⟨gb317, 0, none⟩ = some (.int .i64 a0_0) := (blk_cell BK317.out 0).trans rfl; have hcz88_1 : w86.cell? ⟨gb317, 1, none⟩ = some (.int .i64 a0_1) := (blk_cell BK317.out 1).trans rfl; have hcz88_2 : w86.cell? ⟨gb317, 2, none⟩ = some (.int .i64 a0_2) := (blk_cell BK317.out 2).trans rfl; have hcz88_3 : w86.cell? ⟨gb317, 3, none⟩ = some (.int .i64 a0_3) := (blk_cell BK317.out 3).trans rfl; have hcz88_4 : w86.cell? ⟨gb317, 4, none⟩ = some (.int .i64 a0_4) := (blk_cell BK317.out 4).trans rfl; have hcz88_5 : w86.cell? ⟨gb317, 5, none⟩ = some (.int .i64 a0_5) := (blk_cell BK317.out 5).trans rfl; have hfz88_0 := blk_frozen BK317.out 0; have hfz88_1 := blk_frozen BK317.out 1; have hfz88_2 := blk_frozen BK317.out 2; have hfz88_3 := blk_frozen BK317.out 3; have hfz88_4 := blk_frozen BK317.out 4; have hfz88_5 := blk_frozen BK317.out 5))
                                go_ret
                                exact ⟨by first | rfl | (simp [errW_none, errW_some] <;> rfl) | (simp only [← hji45, ← hji49, ← hji50, ← hji51, ← hji52]; first | rfl | (simp [errW_none, errW_some] <;> rfl)) | (simp [*, errW_none, errW_some] <;> rfl), by repeat (first | (with_reducible first | exact HB.out | apply below_alloc | apply pw_below_drewN | apply below_drew1 | refine below_set ?_ GE317.out | refine below_set ?_ GE323.out | refine below_set ?_ GE329.out | refine below_set ?_ GE338.out | refine below_set ?_ GE345.out) | exact HB.out)⟩
                              · rw [if_neg c59] at H
                                have c59b0 : ((ji49) == (ji51)) = false := beq_eq_false_iff_ne.mpr c59
                                have c59b1 : ((ji49) != (ji51)) = true := bne_iff_ne.mpr c59
                                obtain rfl := Option.some.inj H
                                have hnb89 := NB317_323.out
                                have hnc89 := NB323_317.out
                                have hnb90 := NB317_329.out
                                have hnc90 := NB329_317.out
                                have hcz91_0 : wc.cell? ⟨gb317, 0, none⟩ = some (.int .i64 a0_0) := (blk_cell BK317.out 0).trans rfl
                                have hcz91_1 : wc.cell? ⟨gb317, 1, none⟩ = some (.int .i64 a0_1) := (blk_cell BK317.out 1).trans rfl
                                have hcz91_2 : wc.cell? ⟨gb317, 2, none⟩ = some (.int .i64 a0_2) := (blk_cell BK317.out 2).trans rfl
                                have hcz91_3 : wc.cell? ⟨gb317, 3, none⟩ = some (.int .i64 a0_3) := (blk_cell BK317.out 3).trans rfl
                                have hcz91_4 : wc.cell? ⟨gb317, 4, none⟩ = some (.int .i64 a0_4) := (blk_cell BK317.out 4).trans rfl
                                have hcz91_5 : wc.cell? ⟨gb317, 5, none⟩ = some (.int .i64 a0_5) := (blk_cell BK317.out 5).trans rfl
                                have hfz91_0 := blk_frozen BK317.out 0
                                have hfz91_1 := blk_frozen BK317.out 1
                                have hfz91_2 := blk_frozen BK317.out 2
                                have hfz91_3 := blk_frozen BK317.out 3
                                have hfz91_4 := blk_frozen BK317.out 4
                                have hfz91_5 := blk_frozen BK317.out 5
                                try go_wp2_with (first | ((with_reducible refine gate_callee (f := 20) rfl ?_); refine goesL_ (some 72) rfl rfl Try.func20 (by kernel_rfl) rfl #[.agg #[.int .i64 a0_0, .int .i64 a0_1, .int .i64 a0_2, .int .i64 a0_3, .int .i64 a0_4, .int .i64 a0_5], .int .i64 a1, .int .i64 a3] rfl (by (try simp only [List.map_toArray, List.map_cons, List.map_nil]); first | done | rfl | (simp only [List.length_drop, List.length_take]; rfl)) ?_; (with_reducible refine (sheetgrid_Neighbor.calls kj23 a0_0 a0_1 a0_2 a0_3 a0_4 a0_5 a1 a3 t331 true _ A42.out).mono ?_); rintro e w92 ⟨rfl, hb⟩; refine ⟨_, rfl, ?_⟩; have n0_ := Aside0.mk (blk_below (g := gb317) (o := .cells #[.int .i64 a0_0, .int .i64 a0_1, .int .i64 a0_2, .int .i64 a0_3, .int .i64 a0_4, .int .i64 a0_5] 25 (0, 0)) (by (with_reducible repeat (first | refine blk_drewN ?_ _ | refine blk_drew ?_ | refine blk_alloc ?_ _)); exact BK317.out) hb); have n1_ := Aside0.mk (blk_below (g := gb323) (o := .cells #[.int .i64 t318, .int .i64 t319, .int .i64 t320, .int .i64 t321] 27 (0, 0)) (by (with_reducible repeat (first | refine blk_drewN ?_ _ | refine blk_drew ?_ | refine blk_alloc ?_ _)); exact BK323.out) hb); have n2_ := Aside0.mk (blk_below (g := gb329) (o := .cells #[.int .i64 t324, .int .i64 t325, .int .i64 t326, .int .i64 t327] 27 (0, 0)) (by (with_reducible repeat (first | refine blk_drewN ?_ _ | refine blk_drew ?_ | refine blk_alloc ?_ _)); exact BK329.out) hb); have n3_ := Aside0.mk (below_step (by repeat (first | (with_reducible first | exact HB.out | apply below_alloc | apply pw_below_drewN | apply below_drew1 | refine below_set ?_ GE317.out | refine below_set ?_ GE323.out | refine below_set ?_ GE329.out) | exact HB.out)) hb); clear BK317; clear BK323; clear BK329; clear HB; have BK317 := n0_; have BK323 := n1_; have BK329 := n2_; have HB := n3_; clear n0_ n1_ n2_ n3_; (try clear hb); (try clear hb2); (try clear hk); (try clear hi); have hcz93_0 : w92.cell? ⟨gb317, 0, none⟩ = some (.int .i64 a0_0) := (blk_cell BK317.out 0).trans rfl; have hcz93_1 : w92.cell? ⟨gb317, 1, none⟩ = some (.int .i64 a0_1) := (blk_cell BK317.out 1).trans rfl; have hcz93_2 : w92.cell? ⟨gb317, 2, none⟩ = some (.int .i64 a0_2) := (blk_cell BK317.out 2).trans rfl; have hcz93_3 : w92.cell? ⟨gb317, 3, none⟩ = some (.int .i64 a0_3) := (blk_cell BK317.out 3).trans rfl; have hcz93_4 : w92.cell? ⟨gb317, 4, none⟩ = some (.int .i64 a0_4) := (blk_cell BK317.out 4).trans rfl; have hcz93_5 : w92.cell? ⟨gb317, 5, none⟩ = some (.int .i64 a0_5) := (blk_cell BK317.out 5).trans rfl; have hfz93_0 := blk_frozen BK317.out 0; have hfz93_1 := blk_frozen BK317.out 1; have hfz93_2 := blk_frozen BK317.out 2; have hfz93_3 := blk_frozen BK317.out 3; have hfz93_4 := blk_frozen BK317.out 4; have hfz93_5 := blk_frozen BK317.out 5) | ((with_reducible refine gate_callee (f := 10) rfl ?_); refine goesL_ (some 85) rfl rfl Try.func10 (by kernel_rfl) rfl #[.agg #[.int .i64 a0_0, .int .i64 a0_1, .int .i64 a0_2, .int .i64 a0_3, .int .i64 a0_4, .int .i64 a0_5], .int .i64 t331] rfl (by (try simp only [List.map_toArray, List.map_cons, List.map_nil]); first | done | rfl | (simp only [List.length_drop, List.length_take]; rfl)) ?_; (with_reducible refine (sheetgrid_Box.calls kj23 a0_0 a0_1 a0_2 a0_3 a0_4 a0_5 t331 t333 t334 t335 t336 t337 _ A44.out).mono ?_); rintro e w94 ⟨rfl, hb⟩; refine ⟨_, rfl, ?_⟩; have n0_ := Aside0.mk (blk_below (g := gb317) (o := .cells #[.int .i64 a0_0, .int .i64 a0_1, .int .i64 a0_2, .int .i64 a0_3, .int .i64 a0_4, .int .i64 a0_5] 25 (0, 0)) (by (with_reducible repeat (first | refine blk_drewN ?_ _ | refine blk_drew ?_ | refine blk_alloc ?_ _)); exact BK317.out) hb); have n1_ := Aside0.mk (blk_below (g := gb323) (o := .cells #[.int .i64 t318, .int .i64 t319, .int .i64 t320, .int .i64 t321] 27 (0, 0)) (by (with_reducible repeat (first | refine blk_drewN ?_ _ | refine blk_drew ?_ | refine blk_alloc ?_ _)); exact BK323.out) hb); have n2_ := Aside0.mk (blk_below (g := gb329) (o := .cells #[.int .i64 t324, .int .i64 t325, .int .i64 t326, .int .i64 t327] 27 (0, 0)) (by (with_reducible repeat (first | refine blk_drewN ?_ _ | refine blk_drew ?_ | refine blk_alloc ?_ _)); exact BK329.out) hb); have n3_ := Aside0.mk (below_step (by repeat (first | (with_reducible first | exact HB.out | apply below_alloc | apply pw_below_drewN | apply below_drew1 | refine below_set ?_ GE317.out | refine below_set ?_ GE323.out | refine below_set ?_ GE329.out) | exact HB.out)) hb); clear BK317; clear BK323; clear BK329; clear HB; have BK317 := n0_; have BK323 := n1_; have BK329 := n2_; have HB := n3_; clear n0_ n1_ n2_ n3_; (try clear hb); (try clear hb2); (try clear hk); (try clear hi)) | ((with_reducible refine gate_dst (N := 15) rfl ?_); (try (refine gate_guard (by rfl) ?_; dsimp only)); refine box_event ?hg (N := 15) ?hd (cs := #[.int .i64 0, .int .i64 0, .int .i64 0, .int .i64 0]) (t := 27) ?hr ?_; (case hd => rfl); (case hg => rfl); (case hr => first | (go_simp; done) | (go_simp; rfl)); intro gb338 hg w95 hbox hb; have n0_ := Aside0.mk (blk_below (g := gb317) (o := .cells #[.int .i64 a0_0, .int .i64 a0_1, .int .i64 a0_2, .int .i64 a0_3, .int .i64 a0_4, .int .i64 a0_5] 25 (0, 0)) (by (with_reducible repeat (first | refine blk_drewN ?_ _ | refine blk_drew ?_ | refine blk_alloc ?_ _)); exact BK317.out) hb); have n1_ := Aside0.mk (blk_below (g := gb323) (o := .cells #[.int .i64 t318, .int .i64 t319, .int .i64 t320, .int .i64 t321] 27 (0, 0)) (by (with_reducible repeat (first | refine blk_drewN ?_ _ | refine blk_drew ?_ | refine blk_alloc ?_ _)); exact BK323.out) hb); have n2_ := Aside0.mk (blk_below (g := gb329) (o := .cells #[.int .i64 t324, .int .i64 t325, .int .i64 t326, .int .i64 t327] 27 (0, 0)) (by (with_reducible repeat (first | refine blk_drewN ?_ _ | refine blk_drew ?_ | refine blk_alloc ?_ _)); exact BK329.out) hb); have n3_ := Aside0.mk (below_step (by repeat (first | (with_reducible first | exact HB.out | apply below_alloc | apply pw_below_drewN | apply below_drew1 | refine below_set ?_ GE317.out | refine below_set ?_ GE323.out | refine below_set ?_ GE329.out) | exact HB.out)) hb); have n4_ := Aside0.mk (hbox); have n5_ := Aside0.mk ((by rw [hg]; exact (below_size (by repeat (first | (with_reducible first | exact HB.out | apply below_alloc | apply pw_below_drewN | apply below_drew1 | refine below_set ?_ GE317.out | refine below_set ?_ GE323.out | refine below_set ?_ GE329.out) | exact HB.out))) : w.heap.size ≤ gb338)); have n6_ := Aside0.mk ((by rw [hg]; exact (below_size (by repeat (first | (with_reducible first | exact HB.out | apply below_alloc | apply pw_below_drewN | apply below_drew1 | refine below_set ?_ GE317.out | refine below_set ?_ GE323.out | refine below_set ?_ GE329.out) | exact HB.out))) : w.heap.size ≤ gb338)); have n7_ := Aside0.mk ((by rw [hg]; exact Nat.ne_of_lt (blk_lt (g := gb317) (o := .cells #[.int .i64 a0_0, .int .i64 a0_1, .int .i64 a0_2, .int .i64 a0_3, .int .i64 a0_4, .int .i64 a0_5] 25 (0, 0)) (by (with_reducible repeat (first | refine blk_drewN ?_ _ | refine blk_drew ?_ | refine blk_alloc ?_ _)); exact BK317.out)) : gb317 ≠ gb338)); have n8_ := Aside0.mk ((by rw [hg]; exact Nat.ne_of_gt (blk_lt (g := gb317) (o := .cells #[.int .i64 a0_0, .int .i64 a0_1, .int .i64 a0_2, .int .i64 a0_3, .int .i64 a0_4, .int .i64 a0_5] 25 (0, 0)) (by (with_reducible repeat (first | refine blk_drewN ?_ _ | refine blk_drew ?_ | refine blk_alloc ?_ _)); exact BK317.out)) : gb338 ≠ gb317)); have n9_ := Aside0.mk ((by rw [hg]; exact Nat.ne_of_lt (blk_lt (g := gb323) (o := .cells #[.int .i64 t318, .int .i64 t319, .int .i64 t320, .int .i64 t321] 27 (0, 0)) (by (with_reducible repeat (first | refine blk_drewN ?_ _ | refine blk_drew ?_ | refine blk_alloc ?_ _)); exact BK323.out)) : gb323 ≠ gb338)); have n10_ := Aside0.mk ((by rw [hg]; exact Nat.ne_of_gt (blk_lt (g := gb323) (o := .cells #[.int .i64 t318, .int .i64 t319, .int .i64 t320, .int .i64 t321] 27 (0, 0)) (by (with_reducible repeat (first | refine blk_drewN ?_ _ | refine blk_drew ?_ | refine blk_alloc ?_ _)); exact BK323.out)) : gb338 ≠ gb323)); have n11_ := Aside0.mk ((by rw [hg]; exact Nat.ne_of_lt (blk_lt (g := gb329) (o := .cells #[.int .i64 t324, .int .i64 t325, .int .i64 t326, .int .i64 t327] 27 (0, 0)) (by (with_reducible repeat (first | refine blk_drewN ?_ _ | refine blk_drew ?_ | refine blk_alloc ?_ _)); exact BK329.out)) : gb329 ≠ gb338)); have n12_ := Aside0.mk ((by rw [hg]; exact Nat.ne_of_gt (blk_lt (g := gb329) (o := .cells #[.int .i64 t324, .int .i64 t325, .int .i64 t326, .int .i64 t327] 27 (0, 0)) (by (with_reducible repeat (first | refine blk_drewN ?_ _ | refine blk_drew ?_ | refine blk_alloc ?_ _)); exact BK329.out)) : gb338 ≠ gb329)); clear BK317; clear BK323; clear BK329; clear HB; have BK317 := n0_; have BK323 := n1_; have BK329 := n2_; have HB := n3_; have BK338 := n4_; have GW338 := n5_; have GE338 := n6_; have NB317_338 := n7_; have NB338_317 := n8_; have NB323_338 := n9_; have NB338_323 := n10_; have NB329_338 := n11_; have NB338_329 := n12_; clear n0_ n1_ n2_ n3_ n4_ n5_ n6_ n7_ n8_ n9_ n10_ n11_ n12_; clear hb hbox hg; have hnb96 := NB338_317.out; have hnc96 := NB317_338.out; have hnb97 := NB338_323.out; have hnc97 := NB323_338.out; have hnb98 := NB338_329.out; have hnc98 := NB329_338.out; have hcz99_0 : w95.cell? ⟨gb338, 0, none⟩ = some (.int .i64 0) := (blk_cell BK338.out 0).trans rfl; have hcz99_1 : w95.cell? ⟨gb338, 1, none⟩ = some (.int .i64 0) := (blk_cell BK338.out 1).trans rfl; have hcz99_2 : w95.cell? ⟨gb338, 2, none⟩ = some (.int .i64 0) := (blk_cell BK338.out 2).trans rfl; have hcz99_3 : w95.cell? ⟨gb338, 3, none⟩ = some (.int .i64 0) := (blk_cell BK338.out 3).trans rfl; have hfz99_0 := blk_frozen BK338.out 0; have hfz99_1 := blk_frozen BK338.out 1; have hfz99_2 := blk_frozen BK338.out 2; have hfz99_3 := blk_frozen BK338.out 3))
                                have pi342 : (0 ≤ ((ji45) : Int)) = True := eq_true (of_decide_eq_true (by first | (with_reducible assumption) | assumption))
                                have qi342 : ((ji45) < (y339.length : Int)) = True := eq_true (of_decide_eq_true (by first | (with_reducible assumption) | assumption))
                                have n0_ : Aside0 (((((w95.setCell ⟨gb338, 0, none⟩ (.int .i64 t333)).setCell ⟨gb338, 1, none⟩ (.int .i64 t334)).setCell ⟨gb338, 2, none⟩ (.int .i64 t335)).setCell ⟨gb338, 3, none⟩ (.int .i64 t336)).heap[gb317]? = some (.cells #[.int .i64 a0_0, .int .i64 a0_1, .int .i64 a0_2, .int .i64 a0_3, .int .i64 a0_4, .int .i64 a0_5] 25 (0, 0))) := ⟨by (with_reducible repeat (first | refine blk_drewN ?_ _ | refine blk_drew ?_ | refine blk_alloc ?_ _)); refine blk_far ?_ NB317_338.out _; (with_reducible repeat (first | refine blk_drewN ?_ _ | refine blk_drew ?_ | refine blk_alloc ?_ _)); refine blk_far ?_ NB317_338.out _; (with_reducible repeat (first | refine blk_drewN ?_ _ | refine blk_drew ?_ | refine blk_alloc ?_ _)); refine blk_far ?_ NB317_338.out _; (with_reducible repeat (first | refine blk_drewN ?_ _ | refine blk_drew ?_ | refine blk_alloc ?_ _)); refine blk_far ?_ NB317_338.out _; (with_reducible repeat (first | refine blk_drewN ?_ _ | refine blk_drew ?_ | refine blk_alloc ?_ _)); exact BK317.out⟩
                                have n1_ : Aside0 (((((w95.setCell ⟨gb338, 0, none⟩ (.int .i64 t333)).setCell ⟨gb338, 1, none⟩ (.int .i64 t334)).setCell ⟨gb338, 2, none⟩ (.int .i64 t335)).setCell ⟨gb338, 3, none⟩ (.int .i64 t336)).heap[gb323]? = some (.cells #[.int .i64 t318, .int .i64 t319, .int .i64 t320, .int .i64 t321] 27 (0, 0))) := ⟨by (with_reducible repeat (first | refine blk_drewN ?_ _ | refine blk_drew ?_ | refine blk_alloc ?_ _)); refine blk_far ?_ NB323_338.out _; (with_reducible repeat (first | refine blk_drewN ?_ _ | refine blk_drew ?_ | refine blk_alloc ?_ _)); refine blk_far ?_ NB323_338.out _; (with_reducible repeat (first | refine blk_drewN ?_ _ | refine blk_drew ?_ | refine blk_alloc ?_ _)); refine blk_far ?_ NB323_338.out _; (with_reducible repeat (first | refine blk_drewN ?_ _ | refine blk_drew ?_ | refine blk_alloc ?_ _)); refine blk_far ?_ NB323_338.out _; (with_reducible repeat (first | refine blk_drewN ?_ _ | refine blk_drew ?_ | refine blk_alloc ?_ _)); exact BK323.out⟩
                                have n2_ : Aside0 (((((w95.setCell ⟨gb338, 0, none⟩ (.int .i64 t333)).setCell ⟨gb338, 1, none⟩ (.int .i64 t334)).setCell ⟨gb338, 2, none⟩ (.int .i64 t335)).setCell ⟨gb338, 3, none⟩ (.int .i64 t336)).heap[gb329]? = some (.cells #[.int .i64 t324, .int .i64 t325, .int .i64 t326, .int .i64 t327] 27 (0, 0))) := ⟨by (with_reducible repeat (first | refine blk_drewN ?_ _ | refine blk_drew ?_ | refine blk_alloc ?_ _)); refine blk_far ?_ NB329_338.out _; (with_reducible repeat (first | refine blk_drewN ?_ _ | refine blk_drew ?_ | refine blk_alloc ?_ _)); refine blk_far ?_ NB329_338.out _; (with_reducible repeat (first | refine blk_drewN ?_ _ | refine blk_drew ?_ | refine blk_alloc ?_ _)); refine blk_far ?_ NB329_338.out _; (with_reducible repeat (first | refine blk_drewN ?_ _ | refine blk_drew ?_ | refine blk_alloc ?_ _)); refine blk_far ?_ NB329_338.out _; (with_reducible repeat (first | refine blk_drewN ?_ _ | refine blk_drew ?_ | refine blk_alloc ?_ _)); exact BK329.out⟩
                                have n3_ : Aside0 (((((w95.setCell ⟨gb338, 0, none⟩ (.int .i64 t333)).setCell ⟨gb338, 1, none⟩ (.int .i64 t334)).setCell ⟨gb338, 2, none⟩ (.int .i64 t335)).setCell ⟨gb338, 3, none⟩ (.int .i64 t336)).heap[gb338]? = some (.cells #[.int .i64 t333, .int .i64 t334, .int .i64 t335, .int .i64 t336] 27 (0, 0))) := ⟨by (with_reducible repeat (first | refine blk_drewN ?_ _ | refine blk_drew ?_ | refine blk_alloc ?_ _)); refine blk_put (cs := #[.int .i64 t333, .int .i64 t334, .int .i64 t335, .int .i64 0]) ?_ 3 _ rfl; (with_reducible repeat (first | refine blk_drewN ?_ _ | refine blk_drew ?_ | refine blk_alloc ?_ _)); refine blk_put (cs := #[.int .i64 t333, .int .i64 t334, .int .i64 0, .int .i64 0]) ?_ 2 _ rfl; (with_reducible repeat (first | refine blk_drewN ?_ _ | refine blk_drew ?_ | refine blk_alloc ?_ _)); refine blk_put (cs := #[.int .i64 t333, .int .i64 0, .int .i64 0, .int .i64 0]) ?_ 1 _ rfl; (with_reducible repeat (first | refine blk_drewN ?_ _ | refine blk_drew ?_ | refine blk_alloc ?_ _)); refine blk_put (cs := #[.int .i64 0, .int .i64 0, .int .i64 0, .int .i64 0]) ?_ 0 _ rfl; (with_reducible repeat (first | refine blk_drewN ?_ _ | refine blk_drew ?_ | refine blk_alloc ?_ _)); exact BK338.out⟩
                                have n4_ : Aside0 (Below w.heap.size w ((((w95.setCell ⟨gb338, 0, none⟩ (.int .i64 t333)).setCell ⟨gb338, 1, none⟩ (.int .i64 t334)).setCell ⟨gb338, 2, none⟩ (.int .i64 t335)).setCell ⟨gb338, 3, none⟩ (.int .i64 t336))) := ⟨by repeat (first | (with_reducible first | exact HB.out | apply below_alloc | apply pw_below_drewN | apply below_drew1 | refine below_set ?_ GE317.out | refine below_set ?_ GE323.out | refine below_set ?_ GE329.out | refine below_set ?_ GE338.out) | exact HB.out)⟩
                                (try clear BK317)
                                (try clear BK323)
                                (try clear BK329)
                                (try clear BK338)
                                (try clear HB)
                                generalize ((((w95.setCell ⟨gb338, 0, none⟩ (.int .i64 t333)).setCell ⟨gb338, 1, none⟩ (.int .i64 t334)).setCell ⟨gb338, 2, none⟩ (.int .i64 t335)).setCell ⟨gb338, 3, none⟩ (.int .i64 t336)) = w100 at n0_ n1_ n2_ n3_ n4_ ⊢
                                have BK317 := n0_
                                have BK323 := n1_
                                have BK329 := n2_
                                have BK338 := n3_
                                have HB := n4_
                                clear n0_ n1_ n2_ n3_ n4_
                                have n0_ := Aside0.mk (blk_drew BK317.out)
                                have n1_ := Aside0.mk (blk_drew BK323.out)
                                have n2_ := Aside0.mk (blk_drew BK329.out)
                                have n3_ := Aside0.mk (blk_drew BK338.out)
                                have n4_ := Aside0.mk (below_drew1 HB.out)
                                clear BK317
                                clear BK323
                                clear BK329
                                clear BK338
                                clear HB
                                have BK317 := n0_
                                have BK323 := n1_
                                have BK329 := n2_
                                have BK338 := n3_
                                have HB := n4_
                                clear n0_ n1_ n2_ n3_ n4_
                                refine start_ (n := 14) (S := fun w' => w'.cell? ⟨gb317, 0, none⟩ = some (.int .i64 a0_0) ∧ w'.cell? ⟨gb317, 1, none⟩ = some (.int .i64 a0_1) ∧ w'.cell? ⟨gb317, 2, none⟩ = some (.int .i64 a0_2) ∧ w'.cell? ⟨gb317, 3, none⟩ = some (.int .i64 a0_3) ∧ w'.cell? ⟨gb317, 4, none⟩ = some (.int .i64 a0_4) ∧ w'.cell? ⟨gb317, 5, none⟩ = some (.int .i64 a0_5)) (ds := []) #[false, false, false, false, false, false, false, false, false, false, false, false, false, false] (by kernel_rfl) rfl rfl ⟨(blk_cell BK317.out 0).trans rfl, (blk_cell BK317.out 1).trans rfl, (blk_cell BK317.out 2).trans rfl, (blk_cell BK317.out 3).trans rfl, (blk_cell BK317.out 4).trans rfl, (blk_cell BK317.out 5).trans rfl⟩ (fun hHeld => ?_); refine with_tabW mapsheetslaw40_SheetgridShares.tab11 mapsheetslaw40_SheetgridShares.bits11 (fun HT_ HW_ => ?_)
                                generalize w100.drew = w101 at BK317 BK323 BK329 BK338 HB hHeld ⊢
                                refine pure_ (i := 1) (N := some 90) (v := ?_) (a' := ?_) #[false, true, false, false, false, false, false, false, false, false, false, false, false, false] rfl rfl (any_of HT_.out (by kernel_rfl)) (fun _ _ _ h => h) (Or.inl ⟨by rfl, ?_⟩) ?_ ?_
                                rotate_left
                                · intro w'
                                  go_simp
                                  with_reducible rfl
                                rotate_left
                                · simp only [Act.put, List.setIfInBounds_toArray, List.set_cons_zero, List.set_cons_succ, i64_w, i32_w]
                                  rfl
                                refine pure_ (i := 3) (N := some 92) (v := ?_) (a' := ?_) #[false, true, false, true, false, false, false, false, false, false, false, false, false, false] rfl rfl (any_of HT_.out (by kernel_rfl)) (fun _ _ _ h => h) (Or.inl ⟨by rfl, ?_⟩) ?_ ?_
                                rotate_left
                                · intro w'
                                  go_simp
                                  with_reducible rfl
                                rotate_left
                                · simp only [Act.put, List.setIfInBounds_toArray, List.set_cons_zero, List.set_cons_succ, i64_w, i32_w]
                                  rfl
                                refine pure_ (i := 4) (N := some 93) (v := ?_) (a' := ?_) #[false, true, false, true, true, false, false, false, false, false, false, false, false, false] rfl rfl (any_of HT_.out (by kernel_rfl)) (fun _ _ _ h => h) (Or.inl ⟨by rfl, ?_⟩) ?_ ?_
                                rotate_left
                                · intro w'
                                  go_simp
                                  with_reducible rfl
                                rotate_left
                                · simp only [Act.put, List.setIfInBounds_toArray, List.set_cons_zero, List.set_cons_succ, i64_w, i32_w]
                                  rfl
                                refine pure_ (i := 5) (N := some 94) (v := ?_) (a' := ?_) #[false, true, false, true, true, true, false, false, false, false, false, false, false, false] rfl rfl (any_of HT_.out (by kernel_rfl)) (fun _ _ _ h => h) (Or.inl ⟨by rfl, ?_⟩) ?_ ?_
                                rotate_left
                                · intro w'
                                  go_simp
                                  with_reducible rfl
                                rotate_left
                                · simp only [Act.put, List.setIfInBounds_toArray, List.set_cons_zero, List.set_cons_succ, i64_w, i32_w]
                                  rfl
                                refine take_ (i := 0) (N := some 89) (v := ?_) (a' := ?_) #[true, true, false, true, true, true, false, false, false, false, false, false, false, false] rfl rfl (take_ofW HT_.out HW_.out (by kernel_rfl)) (fun _ _ _ h => h) (Or.inl ⟨by rfl, ?_⟩) hHeld ?_ ?_
                                rotate_left
                                · rintro w' ⟨s0, s1, s2, s3, s4, s5⟩
                                  go_simp
                                  with_reducible rfl
                                rotate_left
                                · simp only [Act.put, List.setIfInBounds_toArray, List.set_cons_zero, List.set_cons_succ, i64_w, i32_w]
                                  rfl
                                refine one_ (i := 2) (N := some 91) #[true, true, true, true, true, true, false, false, false, false, false, false, false, false] rfl rfl (one_of HT_.out (by kernel_rfl)) (by decide) (fun K hK => ?_)
                                refine Kd.R_lit_step (Kd.int .i64) _ 3 ?hg (N := 91) ?hd (xs := ([3, 4, 1, 2] : List Int)) (inner := [.int .i64 3, .int .i64 4, .int .i64 1, .int .i64 2]) (ok := fun _ => True) (okp := fun _ => True) ?hr ?hp (fun _ hk => hk) trivial (Below.refl _ _) (Nat.le_refl _) (by simp) ?_; (case hd => rfl); (case hg => rfl); (case hr => first | (go_simp; done) | (go_simp; rfl)); (case hp => exact (Reps.one (show Kd.M (Kd.int .i64) _ _ _ 3 [.int .i64 3] from rfl) (Reps.one (show Kd.M (Kd.int .i64) _ _ _ 4 [.int .i64 4] from rfl) (Reps.one (show Kd.M (Kd.int .i64) _ _ _ 1 [.int .i64 1] from rfl) (Reps.one (show Kd.M (Kd.int .i64) _ _ _ 2 [.int .i64 2] from rfl) (Reps.none _ _))))))
                                intro v340 w102 ho103 hb hg_ hnew_
                                clear hg_ hnew_
                                (first | rw [← Ny339.out] at ho103 | (simp only [Int.reduceToNat] at ho103; rw [← Ny339.out] at ho103))
                                have n0_ := Aside0.mk (Kd.R_lower ho103 (below_size (by repeat (first | (with_reducible first | exact HB.out | apply below_alloc | apply pw_below_drewN | apply below_drew1 | refine below_set ?_ GE317.out | refine below_set ?_ GE323.out | refine below_set ?_ GE329.out | refine below_set ?_ GE338.out) | exact HB.out))))
                                have n1_ := Aside0.mk (blk_below (g := gb317) (o := .cells #[.int .i64 a0_0, .int .i64 a0_1, .int .i64 a0_2, .int .i64 a0_3, .int .i64 a0_4, .int .i64 a0_5] 25 (0, 0)) (by (with_reducible repeat (first | refine blk_drewN ?_ _ | refine blk_drew ?_ | refine blk_alloc ?_ _)); exact BK317.out) hb)
                                have n2_ := Aside0.mk (blk_below (g := gb323) (o := .cells #[.int .i64 t318, .int .i64 t319, .int .i64 t320, .int .i64 t321] 27 (0, 0)) (by (with_reducible repeat (first | refine blk_drewN ?_ _ | refine blk_drew ?_ | refine blk_alloc ?_ _)); exact BK323.out) hb)
                                have n3_ := Aside0.mk (blk_below (g := gb329) (o := .cells #[.int .i64 t324, .int .i64 t325, .int .i64 t326, .int .i64 t327] 27 (0, 0)) (by (with_reducible repeat (first | refine blk_drewN ?_ _ | refine blk_drew ?_ | refine blk_alloc ?_ _)); exact BK329.out) hb)
                                have n4_ := Aside0.mk (blk_below (g := gb338) (o := .cells #[.int .i64 t333, .int .i64 t334, .int .i64 t335, .int .i64 t336] 27 (0, 0)) (by (with_reducible repeat (first | refine blk_drewN ?_ _ | refine blk_drew ?_ | refine blk_alloc ?_ _)); exact BK338.out) hb)
                                have n5_ := Aside0.mk (below_step (by repeat (first | (with_reducible first | exact HB.out | apply below_alloc | apply pw_below_drewN | apply below_drew1 | refine below_set ?_ GE317.out | refine below_set ?_ GE323.out | refine below_set ?_ GE329.out | refine below_set ?_ GE338.out) | exact HB.out)) hb)
                                clear BK317
                                clear BK323
                                clear BK329
                                clear BK338
                                clear HB
                                have HO341 := n0_
                                have BK317 := n1_
                                have BK323 := n2_
                                have BK329 := n3_
                                have BK338 := n4_
                                have HB := n5_
                                clear n0_ n1_ n2_ n3_ n4_ n5_
                                clear hb ho103
                                obtain ⟨Ao104, co104, eo104⟩ := Kd.R_slice HO341.out
                                subst eo104
                                obtain ⟨ado104, fo104, _⟩ := Kd.at_int (Kd.R_reads' HO341.out).2.2 0 (by decide) (by rw [Ny339.out]; simp)
                                cases fo104
                                refine hK.out _ _ ⟨(blk_cell BK317.out 0).trans rfl, (blk_cell BK317.out 1).trans rfl, (blk_cell BK317.out 2).trans rfl, (blk_cell BK317.out 3).trans rfl, (blk_cell BK317.out 4).trans rfl, (blk_cell BK317.out 5).trans rfl⟩ (fun hHeld => ?_)
                                clear hK K
                                refine norm_ (a' := ?_) ?_ ?_
                                rotate_left
                                · show Act.put _ (some 91) _ = _
                                  simp only [Act.put, List.setIfInBounds_toArray, List.set_cons_zero, List.set_cons_succ, i64_w, i32_w]
                                  rfl
                                refine pure_ (i := 6) (N := some 95) (v := ?_) (a' := ?_) #[true, true, true, true, true, true, true, false, false, false, false, false, false, false] rfl rfl (any_of HT_.out (by kernel_rfl)) (fun _ _ _ h => h) (Or.inl ⟨by rfl, ?_⟩) ?_ ?_
                                rotate_left
                                · intro w'
                                  go_simp
                                  with_reducible rfl
                                rotate_left
                                · simp only [Act.put, List.setIfInBounds_toArray, List.set_cons_zero, List.set_cons_succ, i64_w, i32_w]
                                  rfl
                                refine one_ (i := 7) (N := some 96) #[true, true, true, true, true, true, true, true, false, false, false, false, false, false] rfl rfl (one_of HT_.out (by kernel_rfl)) (by decide) (fun K hK => ?_)
                                (have p342 : 0 ≤ ((ji45) : Int) := of_decide_eq_true (by first | (with_reducible assumption) | assumption); have q342 : (ji45) < (y339.length : Int) := of_decide_eq_true (by first | (with_reducible assumption) | assumption); obtain ⟨ad342, e342, hx342_0⟩ := Kd.at_int (Kd.R_reads' HO341.out).2.2 (ji45) p342 q342; obtain rfl : ado104 = ad342 := (by injection e342))
                                refine value_ (w1 := ?_) (v := ?_) (by rfl) rfl ?_ ?_
                                rotate_left 2
                                · go_simp
                                  constructor
                                  · rfl
                                  · rfl
                                clear hx342_0
                                refine hK.out _ _ ⟨(blk_cell BK317.out 0).trans rfl, (blk_cell BK317.out 1).trans rfl, (blk_cell BK317.out 2).trans rfl, (blk_cell BK317.out 3).trans rfl, (blk_cell BK317.out 4).trans rfl, (blk_cell BK317.out 5).trans rfl⟩ (fun hHeld => ?_)
                                clear hK K
                                refine norm_ (a' := ?_) ?_ ?_
                                rotate_left
                                · show Act.put _ (some 96) _ = _
                                  simp only [Act.put, List.setIfInBounds_toArray, List.set_cons_zero, List.set_cons_succ, i64_w, i32_w]
                                  rfl
                                refine one_ (i := 8) (N := some 97) #[true, true, true, true, true, true, true, true, true, false, false, false, false, false] rfl rfl (one_of HT_.out (by kernel_rfl)) (by decide) (fun K hK => ?_)
                                refine goes_ Try.func20 (by kernel_rfl) rfl #[.agg #[.int .i64 a0_0, .int .i64 a0_1, .int .i64 a0_2, .int .i64 a0_3, .int .i64 a0_4, .int .i64 a0_5], .int .i64 t331, .int .i64 (rd y339 (ji45))] (by rfl) rfl rfl (by (try simp only [List.map_toArray, List.map_cons, List.map_nil]); first | done | (simp only [hji45]; rfl) | rfl | (simp only [List.length_drop, List.length_take]; rfl)) ?_
                                with_reducible refine (sheetgrid_Neighbor.calls kj23 a0_0 a0_1 a0_2 a0_3 a0_4 a0_5 t331 (rd y339 (ji45)) t343 true _ A48.out).mono ?_
                                rintro e w105 ⟨rfl, hb⟩
                                refine ⟨_, rfl, ?_⟩
                                have n0_ := Aside0.mk (Kd.R_below (by (with_reducible repeat (first | apply Kd.R_alloc | apply Kd.R_drewN | apply Kd.R_drew)); exact HO341.out) hb)
                                have n1_ := Aside0.mk (blk_below (g := gb317) (o := .cells #[.int .i64 a0_0, .int .i64 a0_1, .int .i64 a0_2, .int .i64 a0_3, .int .i64 a0_4, .int .i64 a0_5] 25 (0, 0)) (by (with_reducible repeat (first | refine blk_drewN ?_ _ | refine blk_drew ?_ | refine blk_alloc ?_ _)); exact BK317.out) hb)
                                have n2_ := Aside0.mk (blk_below (g := gb323) (o := .cells #[.int .i64 t318, .int .i64 t319, .int .i64 t320, .int .i64 t321] 27 (0, 0)) (by (with_reducible repeat (first | refine blk_drewN ?_ _ | refine blk_drew ?_ | refine blk_alloc ?_ _)); exact BK323.out) hb)
                                have n3_ := Aside0.mk (blk_below (g := gb329) (o := .cells #[.int .i64 t324, .int .i64 t325, .int .i64 t326, .int .i64 t327] 27 (0, 0)) (by (with_reducible repeat (first | refine blk_drewN ?_ _ | refine blk_drew ?_ | refine blk_alloc ?_ _)); exact BK329.out) hb)
                                have n4_ := Aside0.mk (blk_below (g := gb338) (o := .cells #[.int .i64 t333, .int .i64 t334, .int .i64 t335, .int .i64 t336] 27 (0, 0)) (by (with_reducible repeat (first | refine blk_drewN ?_ _ | refine blk_drew ?_ | refine blk_alloc ?_ _)); exact BK338.out) hb)
                                have n5_ := Aside0.mk (below_step (by repeat (first | (with_reducible first | exact HB.out | apply below_alloc | apply pw_below_drewN | apply below_drew1 | refine below_set ?_ GE317.out | refine below_set ?_ GE323.out | refine below_set ?_ GE329.out | refine below_set ?_ GE338.out) | exact HB.out)) hb)
                                clear HO341
                                clear BK317
                                clear BK323
                                clear BK329
                                clear BK338
                                clear HB
                                have HO341 := n0_
                                have BK317 := n1_
                                have BK323 := n2_
                                have BK329 := n3_
                                have BK338 := n4_
                                have HB := n5_
                                clear n0_ n1_ n2_ n3_ n4_ n5_
                                (try clear hb)
                                (try clear hb2)
                                (try clear hk)
                                (try clear hi)
                                refine hK.out _ _ ⟨(blk_cell BK317.out 0).trans rfl, (blk_cell BK317.out 1).trans rfl, (blk_cell BK317.out 2).trans rfl, (blk_cell BK317.out 3).trans rfl, (blk_cell BK317.out 4).trans rfl, (blk_cell BK317.out 5).trans rfl⟩ (fun hHeld => ?_)
                                clear hK K
                                refine norm_ (a' := ?_) ?_ ?_
                                rotate_left
                                · show Act.put _ (some 97) _ = _
                                  simp only [Act.put, List.setIfInBounds_toArray, List.set_cons_zero, List.set_cons_succ, i64_w, i32_w]
                                  rfl
                                refine pure_ (i := 9) (N := some 88) (v := ?_) (a' := ?_) #[true, true, true, true, true, true, true, true, true, true, false, false, false, false] rfl rfl (any_of HT_.out (by kernel_rfl)) (fun _ _ _ h => h) (Or.inl ⟨by rfl, ?_⟩) ?_ ?_
                                rotate_left
                                · intro w'
                                  go_simp
                                  with_reducible rfl
                                rotate_left
                                · simp only [Act.put, List.setIfInBounds_toArray, List.set_cons_zero, List.set_cons_succ, i64_w, i32_w]
                                  rfl
                                refine pure_ (i := 10) (N := some 98) (v := ?_) (a' := ?_) #[true, true, true, true, true, true, true, true, true, true, true, false, false, false] rfl rfl (any_of HT_.out (by kernel_rfl)) (fun _ _ _ h => h) (Or.inl ⟨by rfl, ?_⟩) ?_ ?_
                                rotate_left
                                · intro w'
                                  go_simp
                                  with_reducible rfl
                                rotate_left
                                · simp only [Act.put, List.setIfInBounds_toArray, List.set_cons_zero, List.set_cons_succ, i64_w, i32_w]
                                  rfl
                                refine pure_ (i := 11) (N := some 99) (v := ?_) (a' := ?_) #[true, true, true, true, true, true, true, true, true, true, true, true, false, false] rfl rfl (any_of HT_.out (by kernel_rfl)) (fun _ _ _ h => h) (Or.inl ⟨by rfl, ?_⟩) ?_ ?_
                                rotate_left
                                · intro w'
                                  go_simp
                                  with_reducible rfl
                                rotate_left
                                · simp only [Act.put, List.setIfInBounds_toArray, List.set_cons_zero, List.set_cons_succ, i64_w, i32_w]
                                  rfl
                                refine pure_ (i := 12) (N := some 17) (v := ?_) (a' := ?_) #[true, true, true, true, true, true, true, true, true, true, true, true, true, false] rfl rfl (any_of HT_.out (by kernel_rfl)) (fun _ _ _ h => h) (Or.inl ⟨by rfl, ?_⟩) ?_ ?_
                                rotate_left
                                · intro w'
                                  go_simp
                                  with_reducible rfl
                                rotate_left
                                · simp only [Act.put, List.setIfInBounds_toArray, List.set_cons_zero, List.set_cons_succ, i64_w, i32_w]
                                  rfl
                                refine pure_ (i := 13) (N := some 18) (v := ?_) (a' := ?_) #[true, true, true, true, true, true, true, true, true, true, true, true, true, true] rfl rfl (any_of HT_.out (by kernel_rfl)) (fun _ _ _ h => h) (Or.inl ⟨by rfl, ?_⟩) ?_ ?_
                                rotate_left
                                · intro w'
                                  go_simp
                                  with_reducible rfl
                                rotate_left
                                · simp only [Act.put, List.setIfInBounds_toArray, List.set_cons_zero, List.set_cons_succ, i64_w, i32_w]
                                  rfl
                                refine done_ (done_of HT_.out (by kernel_rfl)) ?_
                                have hnb106 := NB323_329.out
                                have hnc106 := NB329_323.out
                                have hcz107_0 : w105.cell? ⟨gb323, 0, none⟩ = some (.int .i64 t318) := (blk_cell BK323.out 0).trans rfl
                                have hcz107_1 : w105.cell? ⟨gb323, 1, none⟩ = some (.int .i64 t319) := (blk_cell BK323.out 1).trans rfl
                                have hcz107_2 : w105.cell? ⟨gb323, 2, none⟩ = some (.int .i64 t320) := (blk_cell BK323.out 2).trans rfl
                                have hcz107_3 : w105.cell? ⟨gb323, 3, none⟩ = some (.int .i64 t321) := (blk_cell BK323.out 3).trans rfl
                                have hfz107_0 := blk_frozen BK323.out 0
                                have hfz107_1 := blk_frozen BK323.out 1
                                have hfz107_2 := blk_frozen BK323.out 2
                                have hfz107_3 := blk_frozen BK323.out 3
                                have hcz108_0 : w105.cell? ⟨gb338, 0, none⟩ = some (.int .i64 t333) := (blk_cell BK338.out 0).trans rfl
                                have hcz108_1 : w105.cell? ⟨gb338, 1, none⟩ = some (.int .i64 t334) := (blk_cell BK338.out 1).trans rfl
                                have hcz108_2 : w105.cell? ⟨gb338, 2, none⟩ = some (.int .i64 t335) := (blk_cell BK338.out 2).trans rfl
                                have hcz108_3 : w105.cell? ⟨gb338, 3, none⟩ = some (.int .i64 t336) := (blk_cell BK338.out 3).trans rfl
                                have hfz108_0 := blk_frozen BK338.out 0
                                have hfz108_1 := blk_frozen BK338.out 1
                                have hfz108_2 := blk_frozen BK338.out 2
                                have hfz108_3 := blk_frozen BK338.out 3
                                try go_wp2_with (first | ((with_reducible refine gate_dst (N := 19) rfl ?_); (try (refine gate_guard (by rfl) ?_; dsimp only)); refine box_event ?hg (N := 19) ?hd (cs := #[.int .i64 0, .int .i64 0, .int .i64 0, .int .i64 0]) (t := 27) ?hr ?_; (case hd => rfl); (case hg => rfl); (case hr => first | (go_simp; done) | (go_simp; rfl)); intro gb345 hg w109 hbox hb; have n0_ := Aside0.mk (Kd.R_below (by (with_reducible repeat (first | apply Kd.R_alloc | apply Kd.R_drewN | apply Kd.R_drew)); exact HO341.out) hb); have n1_ := Aside0.mk (blk_below (g := gb317) (o := .cells #[.int .i64 a0_0, .int .i64 a0_1, .int .i64 a0_2, .int .i64 a0_3, .int .i64 a0_4, .int .i64 a0_5] 25 (0, 0)) (by (with_reducible repeat (first | refine blk_drewN ?_ _ | refine blk_drew ?_ | refine blk_alloc ?_ _)); exact BK317.out) hb); have n2_ := Aside0.mk (blk_below (g := gb323) (o := .cells #[.int .i64 t318, .int .i64 t319, .int .i64 t320, .int .i64 t321] 27 (0, 0)) (by (with_reducible repeat (first | refine blk_drewN ?_ _ | refine blk_drew ?_ | refine blk_alloc ?_ _)); exact BK323.out) hb); have n3_ := Aside0.mk (blk_below (g := gb329) (o := .cells #[.int .i64 t324, .int .i64 t325, .int .i64 t326, .int .i64 t327] 27 (0, 0)) (by (with_reducible repeat (first | refine blk_drewN ?_ _ | refine blk_drew ?_ | refine blk_alloc ?_ _)); exact BK329.out) hb); have n4_ := Aside0.mk (blk_below (g := gb338) (o := .cells #[.int .i64 t333, .int .i64 t334, .int .i64 t335, .int .i64 t336] 27 (0, 0)) (by (with_reducible repeat (first | refine blk_drewN ?_ _ | refine blk_drew ?_ | refine blk_alloc ?_ _)); exact BK338.out) hb); have n5_ := Aside0.mk (below_step (by repeat (first | (with_reducible first | exact HB.out | apply below_alloc | apply pw_below_drewN | apply below_drew1 | refine below_set ?_ GE317.out | refine below_set ?_ GE323.out | refine below_set ?_ GE329.out | refine below_set ?_ GE338.out) | exact HB.out)) hb); have n6_ := Aside0.mk (hbox); have n7_ := Aside0.mk ((by rw [hg]; exact (below_size (by repeat (first | (with_reducible first | exact HB.out | apply below_alloc | apply pw_below_drewN | apply below_drew1 | refine below_set ?_ GE317.out | refine below_set ?_ GE323.out | refine below_set ?_ GE329.out | refine below_set ?_ GE338.out) | exact HB.out))) : w.heap.size ≤ gb345)); have n8_ := Aside0.mk ((by rw [hg]; exact (below_size (by repeat (first | (with_reducible first | exact HB.out | apply below_alloc | apply pw_below_drewN | apply below_drew1 | refine below_set ?_ GE317.out | refine below_set ?_ GE323.out | refine below_set ?_ GE329.out | refine below_set ?_ GE338.out) | exact HB.out))) : w.heap.size ≤ gb345)); have n9_ := Aside0.mk ((by rw [hg]; exact Nat.ne_of_lt (blk_lt (g := gb317) (o := .cells #[.int .i64 a0_0, .int .i64 a0_1, .int .i64 a0_2, .int .i64 a0_3, .int .i64 a0_4, .int .i64 a0_5] 25 (0, 0)) (by (with_reducible repeat (first | refine blk_drewN ?_ _ | refine blk_drew ?_ | refine blk_alloc ?_ _)); exact BK317.out)) : gb317 ≠ gb345)); have n10_ := Aside0.mk ((by rw [hg]; exact Nat.ne_of_gt (blk_lt (g := gb317) (o := .cells #[.int .i64 a0_0, .int .i64 a0_1, .int .i64 a0_2, .int .i64 a0_3, .int .i64 a0_4, .int .i64 a0_5] 25 (0, 0)) (by (with_reducible repeat (first | refine blk_drewN ?_ _ | refine blk_drew ?_ | refine blk_alloc ?_ _)); exact BK317.out)) : gb345 ≠ gb317)); have n11_ := Aside0.mk ((by rw [hg]; exact Nat.ne_of_lt (blk_lt (g := gb323) (o := .cells #[.int .i64 t318, .int .i64 t319, .int .i64 t320, .int .i64 t321] 27 (0, 0)) (by (with_reducible repeat (first | refine blk_drewN ?_ _ | refine blk_drew ?_ | refine blk_alloc ?_ _)); exact BK323.out)) : gb323 ≠ gb345)); have n12_ := Aside0.mk ((by rw [hg]; exact Nat.ne_of_gt (blk_lt (g := gb323) (o := .cells #[.int .i64 t318, .int .i64 t319, .int .i64 t320, .int .i64 t321] 27 (0, 0)) (by (with_reducible repeat (first | refine blk_drewN ?_ _ | refine blk_drew ?_ | refine blk_alloc ?_ _)); exact BK323.out)) : gb345 ≠ gb323)); have n13_ := Aside0.mk ((by rw [hg]; exact Nat.ne_of_lt (blk_lt (g := gb329) (o := .cells #[.int .i64 t324, .int .i64 t325, .int .i64 t326, .int .i64 t327] 27 (0, 0)) (by (with_reducible repeat (first | refine blk_drewN ?_ _ | refine blk_drew ?_ | refine blk_alloc ?_ _)); exact BK329.out)) : gb329 ≠ gb345)); have n14_ := Aside0.mk ((by rw [hg]; exact Nat.ne_of_gt (blk_lt (g := gb329) (o := .cells #[.int .i64 t324, .int .i64 t325, .int .i64 t326, .int .i64 t327] 27 (0, 0)) (by (with_reducible repeat (first | refine blk_drewN ?_ _ | refine blk_drew ?_ | refine blk_alloc ?_ _)); exact BK329.out)) : gb345 ≠ gb329)); have n15_ := Aside0.mk ((by rw [hg]; exact Nat.ne_of_lt (blk_lt (g := gb338) (o := .cells #[.int .i64 t333, .int .i64 t334, .int .i64 t335, .int .i64 t336] 27 (0, 0)) (by (with_reducible repeat (first | refine blk_drewN ?_ _ | refine blk_drew ?_ | refine blk_alloc ?_ _)); exact BK338.out)) : gb338 ≠ gb345)); have n16_ := Aside0.mk ((by rw [hg]; exact Nat.ne_of_gt (blk_lt (g := gb338) (o := .cells #[.int .i64 t333, .int .i64 t334, .int .i64 t335, .int .i64 t336] 27 (0, 0)) (by (with_reducible repeat (first | refine blk_drewN ?_ _ | refine blk_drew ?_ | refine blk_alloc ?_ _)); exact BK338.out)) : gb345 ≠ gb338)); clear HO341; clear BK317; clear BK323; clear BK329; clear BK338; clear HB; have HO341 := n0_; have BK317 := n1_; have BK323 := n2_; have BK329 := n3_; have BK338 := n4_; have HB := n5_; have BK345 := n6_; have GW345 := n7_; have GE345 := n8_; have NB317_345 := n9_; have NB345_317 := n10_; have NB323_345 := n11_; have NB345_323 := n12_; have NB329_345 := n13_; have NB345_329 := n14_; have NB338_345 := n15_; have NB345_338 := n16_; clear n0_ n1_ n2_ n3_ n4_ n5_ n6_ n7_ n8_ n9_ n10_ n11_ n12_ n13_ n14_ n15_ n16_; clear hb hbox hg; have hnb110 := NB345_317.out; have hnc110 := NB317_345.out; have hnb111 := NB345_323.out; have hnc111 := NB323_345.out; have hnb112 := NB345_329.out; have hnc112 := NB329_345.out; have hnb113 := NB345_338.out; have hnc113 := NB338_345.out; have hcz114_0 : w109.cell? ⟨gb345, 0, none⟩ = some (.int .i64 0) := (blk_cell BK345.out 0).trans rfl; have hcz114_1 : w109.cell? ⟨gb345, 1, none⟩ = some (.int .i64 0) := (blk_cell BK345.out 1).trans rfl; have hcz114_2 : w109.cell? ⟨gb345, 2, none⟩ = some (.int .i64 0) := (blk_cell BK345.out 2).trans rfl; have hcz114_3 : w109.cell? ⟨gb345, 3, none⟩ = some (.int .i64 0) := (blk_cell BK345.out 3).trans rfl; have hfz114_0 := blk_frozen BK345.out 0; have hfz114_1 := blk_frozen BK345.out 1; have hfz114_2 := blk_frozen BK345.out 2; have hfz114_3 := blk_frozen BK345.out 3) | ((with_reducible refine gate_callee (f := 12) rfl ?_); refine goesL_ (some 121) rfl rfl Try.func12 (by kernel_rfl) rfl #[] rfl (by (try simp only [List.map_toArray, List.map_cons, List.map_nil]); first | done | rfl | (simp only [List.length_drop, List.length_take]; rfl)) ?_; (with_reducible refine (mapsheetslaw40_awake.calls kj23  true _ A53.out).mono ?_); rintro e w115 ⟨rfl, hb⟩; refine ⟨_, rfl, ?_⟩; have n0_ := Aside0.mk (Kd.R_below (by (with_reducible repeat (first | apply Kd.R_alloc | apply Kd.R_drewN | apply Kd.R_drew)); exact (Kd.R_mono (Kd.R_far (p := ⟨gb345, 3, none⟩) (Kd.R_far (p := ⟨gb345, 2, none⟩) (Kd.R_far (p := ⟨gb345, 1, none⟩) (Kd.R_far (p := ⟨gb345, 0, none⟩) (Kd.R_types HO341.out BK345.out (by decide)) (fun _ hk => hk.2) (.int .i64 ji49)) (fun _ hk => hk.2) (.int .i64 ji50)) (fun _ hk => hk.2) (.int .i64 ji51)) (fun _ hk => hk.2) (.int .i64 ji52)) (fun _ h_ => h_.1))) hb); have n1_ := Aside0.mk (blk_below (g := gb317) (o := .cells #[.int .i64 a0_0, .int .i64 a0_1, .int .i64 a0_2, .int .i64 a0_3, .int .i64 a0_4, .int .i64 a0_5] 25 (0, 0)) (by (with_reducible repeat (first | refine blk_drewN ?_ _ | refine blk_drew ?_ | refine blk_alloc ?_ _)); refine blk_far ?_ NB317_345.out _; (with_reducible repeat (first | refine blk_drewN ?_ _ | refine blk_drew ?_ | refine blk_alloc ?_ _)); refine blk_far ?_ NB317_345.out _; (with_reducible repeat (first | refine blk_drewN ?_ _ | refine blk_drew ?_ | refine blk_alloc ?_ _)); refine blk_far ?_ NB317_345.out _; (with_reducible repeat (first | refine blk_drewN ?_ _ | refine blk_drew ?_ | refine blk_alloc ?_ _)); refine blk_far ?_ NB317_345.out _; (with_reducible repeat (first | refine blk_drewN ?_ _ | refine blk_drew ?_ | refine blk_alloc ?_ _)); exact BK317.out) hb); have n2_ := Aside0.mk (blk_below (g := gb323) (o := .cells #[.int .i64 t318, .int .i64 t319, .int .i64 t320, .int .i64 t321] 27 (0, 0)) (by (with_reducible repeat (first | refine blk_drewN ?_ _ | refine blk_drew ?_ | refine blk_alloc ?_ _)); refine blk_far ?_ NB323_345.out _; (with_reducible repeat (first | refine blk_drewN ?_ _ | refine blk_drew ?_ | refine blk_alloc ?_ _)); refine blk_far ?_ NB323_345.out _; (with_reducible repeat (first | refine blk_drewN ?_ _ | refine blk_drew ?_ | refine blk_alloc ?_ _)); refine blk_far ?_ NB323_345.out _; (with_reducible repeat (first | refine blk_drewN ?_ _ | refine blk_drew ?_ | refine blk_alloc ?_ _)); refine blk_far ?_ NB323_345.out _; (with_reducible repeat (first | refine blk_drewN ?_ _ | refine blk_drew ?_ | refine blk_alloc ?_ _)); exact BK323.out) hb); have n3_ := Aside0.mk (blk_below (g := gb329) (o := .cells #[.int .i64 t324, .int .i64 t325, .int .i64 t326, .int .i64 t327] 27 (0, 0)) (by (with_reducible repeat (first | refine blk_drewN ?_ _ | refine blk_drew ?_ | refine blk_alloc ?_ _)); refine blk_far ?_ NB329_345.out _; (with_reducible repeat (first | refine blk_drewN ?_ _ | refine blk_drew ?_ | refine blk_alloc ?_ _)); refine blk_far ?_ NB329_345.out _; (with_reducible repeat (first | refine blk_drewN ?_ _ | refine blk_drew ?_ | refine blk_alloc ?_ _)); refine blk_far ?_ NB329_345.out _; (with_reducible repeat (first | refine blk_drewN ?_ _ | refine blk_drew ?_ | refine blk_alloc ?_ _)); refine blk_far ?_ NB329_345.out _; (with_reducible repeat (first | refine blk_drewN ?_ _ | refine blk_drew ?_ | refine blk_alloc ?_ _)); exact BK329.out) hb); have n4_ := Aside0.mk (blk_below (g := gb338) (o := .cells #[.int .i64 t333, .int .i64 t334, .int .i64 t335, .int .i64 t336] 27 (0, 0)) (by (with_reducible repeat (first | refine blk_drewN ?_ _ | refine blk_drew ?_ | refine blk_alloc ?_ _)); refine blk_far ?_ NB338_345.out _; (with_reducible repeat (first | refine blk_drewN ?_ _ | refine blk_drew ?_ | refine blk_alloc ?_ _)); refine blk_far ?_ NB338_345.out _; (with_reducible repeat (first | refine blk_drewN ?_ _ | refine blk_drew ?_ | refine blk_alloc ?_ _)); refine blk_far ?_ NB338_345.out _; (with_reducible repeat (first | refine blk_drewN ?_ _ | refine blk_drew ?_ | refine blk_alloc ?_ _)); refine blk_far ?_ NB338_345.out _; (with_reducible repeat (first | refine blk_drewN ?_ _ | refine blk_drew ?_ | refine blk_alloc ?_ _)); exact BK338.out) hb); have n5_ := Aside0.mk (blk_below (g := gb345) (o := .cells #[.int .i64 ji49, .int .i64 ji50, .int .i64 ji51, .int .i64 ji52] 27 (0, 0)) (by (with_reducible repeat (first | refine blk_drewN ?_ _ | refine blk_drew ?_ | refine blk_alloc ?_ _)); refine blk_put (cs := #[.int .i64 ji49, .int .i64 ji50, .int .i64 ji51, .int .i64 0]) ?_ 3 _ rfl; (with_reducible repeat (first | refine blk_drewN ?_ _ | refine blk_drew ?_ | refine blk_alloc ?_ _)); refine blk_put (cs := #[.int .i64 ji49, .int .i64 ji50, .int .i64 0, .int .i64 0]) ?_ 2 _ rfl; (with_reducible repeat (first | refine blk_drewN ?_ _ | refine blk_drew ?_ | refine blk_alloc ?_ _)); refine blk_put (cs := #[.int .i64 ji49, .int .i64 0, .int .i64 0, .int .i64 0]) ?_ 1 _ rfl; (with_reducible repeat (first | refine blk_drewN ?_ _ | refine blk_drew ?_ | refine blk_alloc ?_ _)); refine blk_put (cs := #[.int .i64 0, .int .i64 0, .int .i64 0, .int .i64 0]) ?_ 0 _ rfl; (with_reducible repeat (first | refine blk_drewN ?_ _ | refine blk_drew ?_ | refine blk_alloc ?_ _)); exact BK345.out) hb); have n6_ := Aside0.mk (below_step (by repeat (first | (with_reducible first | exact HB.out | apply below_alloc | apply pw_below_drewN | apply below_drew1 | refine below_set ?_ GE317.out | refine below_set ?_ GE323.out | refine below_set ?_ GE329.out | refine below_set ?_ GE338.out | refine below_set ?_ GE345.out) | exact HB.out)) hb); clear HO341; clear BK317; clear BK323; clear BK329; clear BK338; clear BK345; clear HB; have HO341 := n0_; have BK317 := n1_; have BK323 := n2_; have BK329 := n3_; have BK338 := n4_; have BK345 := n5_; have HB := n6_; clear n0_ n1_ n2_ n3_ n4_ n5_ n6_; (try clear hb); (try clear hb2); (try clear hk); (try clear hi); have hcz116_0 : w115.cell? ⟨gb345, 0, none⟩ = some (.int .i64 ji49) := (blk_cell BK345.out 0).trans rfl; have hcz116_1 : w115.cell? ⟨gb345, 1, none⟩ = some (.int .i64 ji50) := (blk_cell BK345.out 1).trans rfl; have hcz116_2 : w115.cell? ⟨gb345, 2, none⟩ = some (.int .i64 ji51) := (blk_cell BK345.out 2).trans rfl; have hcz116_3 : w115.cell? ⟨gb345, 3, none⟩ = some (.int .i64 ji52) := (blk_cell BK345.out 3).trans rfl; have hfz116_0 := blk_frozen BK345.out 0; have hfz116_1 := blk_frozen BK345.out 1; have hfz116_2 := blk_frozen BK345.out 2; have hfz116_3 := blk_frozen BK345.out 3; have hcz117_0 : w115.cell? ⟨gb317, 0, none⟩ = some (.int .i64 a0_0) := (blk_cell BK317.out 0).trans rfl; have hcz117_1 : w115.cell? ⟨gb317, 1, none⟩ = some (.int .i64 a0_1) := (blk_cell BK317.out 1).trans rfl; have hcz117_2 : w115.cell? ⟨gb317, 2, none⟩ = some (.int .i64 a0_2) := (blk_cell BK317.out 2).trans rfl; have hcz117_3 : w115.cell? ⟨gb317, 3, none⟩ = some (.int .i64 a0_3) := (blk_cell BK317.out 3).trans rfl; have hcz117_4 : w115.cell? ⟨gb317, 4, none⟩ = some (.int .i64 a0_4) := (blk_cell BK317.out 4).trans rfl; have hcz117_5 : w115.cell? ⟨gb317, 5, none⟩ = some (.int .i64 a0_5) := (blk_cell BK317.out 5).trans rfl; have hfz117_0 := blk_frozen BK317.out 0; have hfz117_1 := blk_frozen BK317.out 1; have hfz117_2 := blk_frozen BK317.out 2; have hfz117_3 := blk_frozen BK317.out 3; have hfz117_4 := blk_frozen BK317.out 4; have hfz117_5 := blk_frozen BK317.out 5))
                                go_ret
                                exact ⟨by first | rfl | (simp [errW_none, errW_some] <;> rfl) | (simp only [← hji45, ← hji49, ← hji50, ← hji51, ← hji52]; first | rfl | (simp [errW_none, errW_some] <;> rfl)) | (simp [*, errW_none, errW_some] <;> rfl), by repeat (first | (with_reducible first | exact HB.out | apply below_alloc | apply pw_below_drewN | apply below_drew1 | refine below_set ?_ GE317.out | refine below_set ?_ GE323.out | refine below_set ?_ GE329.out | refine below_set ?_ GE338.out | refine below_set ?_ GE345.out) | exact HB.out)⟩
                            · rw [if_neg c58] at H
                              exact absurd H (by simp)
                          · rw [if_neg c57] at H
                            exact absurd H (by simp)
                        · replace c56 := Bool.eq_false_iff.mpr c56
                          subst c56
                          have H1 : (none) = some r := by rw [if_neg (show ¬ (false = true) by decide)] at H; exact H
                          clear H
                          have H := H1
                          clear H1
                          exact absurd H (by simp)
                      · rw [if_neg c55] at H
                        exact absurd H (by simp)
                    · replace c54 := Bool.eq_false_iff.mpr c54
                      subst c54
                      have H1 : (none) = some r := by rw [if_neg (show ¬ (false = true) by decide)] at H; exact H
                      clear H
                      have H := H1
                      clear H1
                      exact absurd H (by simp)
                  · rw [if_neg c47] at H
                    exact absurd H (by simp)
                · rw [if_neg c46] at H
                  exact absurd H (by simp)
              · replace c43 := Bool.eq_false_iff.mpr c43
                subst c43
                have H1 : ((mapsheetslaw40_awake.f kj23).bind fun t347 => (if t347 = true then (some (t331 == 0)) else (none))) = some r := by rw [if_neg (show ¬ (false = true) by decide)] at H; exact H
                clear H
                have H := H1
                clear H1
                replace H := Option.bind_eq_some_iff.mp H
                obtain ⟨t347, A1180, H⟩ := H
                replace H : (if t347 = true then (some (t331 == 0)) else (none)) = some r := H
                have A118 := Aside0.mk A1180
                clear A1180
                by_cases c119 : t347 = true
                · subst c119
                  have H1 : (some (t331 == 0)) = some r := by rw [if_pos rfl] at H; exact H
                  clear H
                  have H := H1
                  clear H1
                  obtain rfl := Option.some.inj H
                  have hnb120 := NB317_323.out
                  have hnc120 := NB323_317.out
                  have hnb121 := NB317_329.out
                  have hnc121 := NB329_317.out
                  have hcz122_0 : wc.cell? ⟨gb317, 0, none⟩ = some (.int .i64 a0_0) := (blk_cell BK317.out 0).trans rfl
                  have hcz122_1 : wc.cell? ⟨gb317, 1, none⟩ = some (.int .i64 a0_1) := (blk_cell BK317.out 1).trans rfl
                  have hcz122_2 : wc.cell? ⟨gb317, 2, none⟩ = some (.int .i64 a0_2) := (blk_cell BK317.out 2).trans rfl
                  have hcz122_3 : wc.cell? ⟨gb317, 3, none⟩ = some (.int .i64 a0_3) := (blk_cell BK317.out 3).trans rfl
                  have hcz122_4 : wc.cell? ⟨gb317, 4, none⟩ = some (.int .i64 a0_4) := (blk_cell BK317.out 4).trans rfl
                  have hcz122_5 : wc.cell? ⟨gb317, 5, none⟩ = some (.int .i64 a0_5) := (blk_cell BK317.out 5).trans rfl
                  have hfz122_0 := blk_frozen BK317.out 0
                  have hfz122_1 := blk_frozen BK317.out 1
                  have hfz122_2 := blk_frozen BK317.out 2
                  have hfz122_3 := blk_frozen BK317.out 3
                  have hfz122_4 := blk_frozen BK317.out 4
                  have hfz122_5 := blk_frozen BK317.out 5
                  go_wp2_with (first | ((with_reducible refine gate_callee (f := 20) rfl ?_); refine goesL_ (some 72) rfl rfl Try.func20 (by kernel_rfl) rfl #[.agg #[.int .i64 a0_0, .int .i64 a0_1, .int .i64 a0_2, .int .i64 a0_3, .int .i64 a0_4, .int .i64 a0_5], .int .i64 a1, .int .i64 a3] rfl (by (try simp only [List.map_toArray, List.map_cons, List.map_nil]); first | done | rfl | (simp only [List.length_drop, List.length_take]; rfl)) ?_; (with_reducible refine (sheetgrid_Neighbor.calls kj23 a0_0 a0_1 a0_2 a0_3 a0_4 a0_5 a1 a3 t331 false _ A42.out).mono ?_); rintro e w123 ⟨rfl, hb⟩; refine ⟨_, rfl, ?_⟩; have n0_ := Aside0.mk (blk_below (g := gb317) (o := .cells #[.int .i64 a0_0, .int .i64 a0_1, .int .i64 a0_2, .int .i64 a0_3, .int .i64 a0_4, .int .i64 a0_5] 25 (0, 0)) (by (with_reducible repeat (first | refine blk_drewN ?_ _ | refine blk_drew ?_ | refine blk_alloc ?_ _)); exact BK317.out) hb); have n1_ := Aside0.mk (blk_below (g := gb323) (o := .cells #[.int .i64 t318, .int .i64 t319, .int .i64 t320, .int .i64 t321] 27 (0, 0)) (by (with_reducible repeat (first | refine blk_drewN ?_ _ | refine blk_drew ?_ | refine blk_alloc ?_ _)); exact BK323.out) hb); have n2_ := Aside0.mk (blk_below (g := gb329) (o := .cells #[.int .i64 t324, .int .i64 t325, .int .i64 t326, .int .i64 t327] 27 (0, 0)) (by (with_reducible repeat (first | refine blk_drewN ?_ _ | refine blk_drew ?_ | refine blk_alloc ?_ _)); exact BK329.out) hb); have n3_ := Aside0.mk (below_step (by repeat (first | (with_reducible first | exact HB.out | apply below_alloc | apply pw_below_drewN | apply below_drew1 | refine below_set ?_ GE317.out | refine below_set ?_ GE323.out | refine below_set ?_ GE329.out) | exact HB.out)) hb); clear BK317; clear BK323; clear BK329; clear HB; have BK317 := n0_; have BK323 := n1_; have BK329 := n2_; have HB := n3_; clear n0_ n1_ n2_ n3_; (try clear hb); (try clear hb2); (try clear hk); (try clear hi)) | ((with_reducible refine gate_callee (f := 12) rfl ?_); refine goesL_ (some 77) rfl rfl Try.func12 (by kernel_rfl) rfl #[] rfl (by (try simp only [List.map_toArray, List.map_cons, List.map_nil]); first | done | rfl | (simp only [List.length_drop, List.length_take]; rfl)) ?_; (with_reducible refine (mapsheetslaw40_awake.calls kj23  true _ A118.out).mono ?_); rintro e w124 ⟨rfl, hb⟩; refine ⟨_, rfl, ?_⟩; have n0_ := Aside0.mk (blk_below (g := gb317) (o := .cells #[.int .i64 a0_0, .int .i64 a0_1, .int .i64 a0_2, .int .i64 a0_3, .int .i64 a0_4, .int .i64 a0_5] 25 (0, 0)) (by (with_reducible repeat (first | refine blk_drewN ?_ _ | refine blk_drew ?_ | refine blk_alloc ?_ _)); exact BK317.out) hb); have n1_ := Aside0.mk (blk_below (g := gb323) (o := .cells #[.int .i64 t318, .int .i64 t319, .int .i64 t320, .int .i64 t321] 27 (0, 0)) (by (with_reducible repeat (first | refine blk_drewN ?_ _ | refine blk_drew ?_ | refine blk_alloc ?_ _)); exact BK323.out) hb); have n2_ := Aside0.mk (blk_below (g := gb329) (o := .cells #[.int .i64 t324, .int .i64 t325, .int .i64 t326, .int .i64 t327] 27 (0, 0)) (by (with_reducible repeat (first | refine blk_drewN ?_ _ | refine blk_drew ?_ | refine blk_alloc ?_ _)); exact BK329.out) hb); have n3_ := Aside0.mk (below_step (by repeat (first | (with_reducible first | exact HB.out | apply below_alloc | apply pw_below_drewN | apply below_drew1 | refine below_set ?_ GE317.out | refine below_set ?_ GE323.out | refine below_set ?_ GE329.out) | exact HB.out)) hb); clear BK317; clear BK323; clear BK329; clear HB; have BK317 := n0_; have BK323 := n1_; have BK329 := n2_; have HB := n3_; clear n0_ n1_ n2_ n3_; (try clear hb); (try clear hb2); (try clear hk); (try clear hi)))
                  go_ret
                  exact ⟨by first | rfl | (simp [errW_none, errW_some] <;> rfl) | (simp [*, errW_none, errW_some] <;> rfl), by repeat (first | (with_reducible first | exact HB.out | apply below_alloc | apply pw_below_drewN | apply below_drew1 | refine below_set ?_ GE317.out | refine below_set ?_ GE323.out | refine below_set ?_ GE329.out) | exact HB.out)⟩
                · replace c119 := Bool.eq_false_iff.mpr c119
                  subst c119
                  have H1 : (none) = some r := by rw [if_neg (show ¬ (false = true) by decide)] at H; exact H
                  clear H
                  have H := H1
                  clear H1
                  exact absurd H (by simp)

/-- THE ONE PURE STATEMENT of mapsheetslaw40_SheetgridShares: yours. -/
def mapsheetslaw40_SheetgridShares.Pure : Prop := ∀ (a0_0 : Int) (a0_1 : Int) (a0_2 : Int) (a0_3 : Int) (a0_4 : Int) (a0_5 : Int) (a1 : Int) (a2 : Int) (a3 : Int), (Lit.int .i64 a0_0).wf = true → (Lit.int .i64 a0_1).wf = true → (Lit.int .i64 a0_2).wf = true → (Lit.int .i64 a0_3).wf = true → (Lit.int .i64 a0_4).wf = true → (Lit.int .i64 a0_5).wf = true → (Lit.int .i64 a1).wf = true → (Lit.int .i64 a2).wf = true → (Lit.int .i64 a3).wf = true → ∃ k, mapsheetslaw40_SheetgridShares.f k a0_0 a0_1 a0_2 a0_3 a0_4 a0_5 a1 a2 a3 = some true
theorem mapsheetslaw40_SheetgridShares.walk (P : mapsheetslaw40_SheetgridShares.Pure) (a0_0 : Int) (a0_1 : Int) (a0_2 : Int) (a0_3 : Int) (a0_4 : Int) (a0_5 : Int) (a1 : Int) (a2 : Int) (a3 : Int) (w : World) (w0_0 : (Lit.int .i64 a0_0).wf = true) (w0_1 : (Lit.int .i64 a0_1).wf = true) (w0_2 : (Lit.int .i64 a0_2).wf = true) (w0_3 : (Lit.int .i64 a0_3).wf = true) (w0_4 : (Lit.int .i64 a0_4).wf = true) (w0_5 : (Lit.int .i64 a0_5).wf = true) (w1 : (Lit.int .i64 a1).wf = true) (w2 : (Lit.int .i64 a2).wf = true) (w3 : (Lit.int .i64 a3).wf = true) :
    Calls Try.prog 8 #[.agg #[.int .i64 a0_0, .int .i64 a0_1, .int .i64 a0_2, .int .i64 a0_3, .int .i64 a0_4, .int .i64 a0_5], .int .i64 a1, .int .i64 a2, .int .i64 a3] w fun e w' => e = .returned (.bool true) ∧ Below w.heap.size w w' := by
  obtain ⟨k, h⟩ := P a0_0 a0_1 a0_2 a0_3 a0_4 a0_5 a1 a2 a3 w0_0 w0_1 w0_2 w0_3 w0_4 w0_5 w1 w2 w3
  refine (mapsheetslaw40_SheetgridShares.calls k a0_0 a0_1 a0_2 a0_3 a0_4 a0_5 a1 a2 a3 true w h).mono ?_
  rintro e w' ⟨rfl, hd⟩
  exact ⟨rfl, hd⟩

end Go.Proofs.Yteinjjobeamijaa.P
