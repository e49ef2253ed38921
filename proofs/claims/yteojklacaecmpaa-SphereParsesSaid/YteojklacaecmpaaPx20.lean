-- Written by wip/tools/xprint.py (this session's program, over the kit's print.py) for this seat.
import Derived.Test.YteojklacaecmpaaPx0
import Derived.Test.YteojklacaecmpaaPx1
import Derived.Test.YteojklacaecmpaaPx5
import Derived.Test.YteojklacaecmpaaPx10
import Derived.Test.YteojklacaecmpaaPx19
namespace Go.Proofs.Yteojklacaecmpaa.P
open Go.RowKit Go.Proofs.YteojklacaecmpaaW.PrintWords Go.Proofs.YteojklacaecmpaaW.PrintLast Go.Proofs.YteojklacaecmpaaW.PrintMore
attribute [local go_sem] max2_int min2_int max_two min_two max_three min_three max_four min_four   -- for this text's walks alone
set_option linter.unusedVariables false
set_option linter.unusedSimpArgs false

attribute [local go_sem high] eqA23
/-! ### mapsheetslaw12_SphereParses: function 5 -/
def mapsheetslaw12_SphereParses.f (k : Nat) (a0 : ByteArray) : Option (Bool) := (sphere_Parse.f k a0).bind fun bt282 => ((mapsheetsref12_Parse.f k a0).bind fun bt286 => (if (bt282.1 == bt286.1 && (bt282.2.1 == bt286.2.1)) = true then (if bt282.2.2 = bt286.2.2 then ((mapsheetslaw12_awake.f k).bind fun t290 => (some t290)) else (none)) else (none)))
theorem mapsheetslaw12_SphereParses.mono : ∀ a0 k, LeO (mapsheetslaw12_SphereParses.f k a0) (mapsheetslaw12_SphereParses.f (k + 1) a0) := by
 intro a0 k
 unfold mapsheetslaw12_SphereParses.f
 repeat' first
   | (with_reducible exact mapsheetslaw12_awake.mono _)
   | (with_reducible exact mapsheetsref12_Parse.mono _ _)
   | (with_reducible exact sphere_Parse.mono _ _)
   | (with_reducible exact LeO.refl _)
   | (with_reducible exact LeO.none _)
   | (with_reducible refine LeO.ite ?_ ?_)
   | (with_reducible refine LeO.bind ?_ (fun _ => ?_))
   | exact mapsheetslaw12_awake.mono _
   | exact mapsheetsref12_Parse.mono _ _
   | exact sphere_Parse.mono _ _
   | exact LeO.none _
   | refine LeO.ite ?_ ?_
   | refine LeO.bind ?_ (fun _ => ?_)
set_option maxHeartbeats 8000000 in
set_option maxRecDepth 100000 in
theorem mapsheetslaw12_SphereParses.calls (k : Nat) (a0 : ByteArray) (r : Bool) (w : World) (h : mapsheetslaw12_SphereParses.f k a0 = some r) :
  Calls Try.prog 5 #[.string a0] w fun e w' => e = .returned (.bool r) ∧ Below w.heap.size w w' := by
 have hu23 := Try.underlying23
 have HB := Aside0.mk (Below.refl w.heap.size w)
 have H : ((sphere_Parse.f k a0).bind fun bt282 => ((mapsheetsref12_Parse.f k a0).bind fun bt286 => (if (bt282.1 == bt286.1 && (bt282.2.1 == bt286.2.1)) = true then (if bt282.2.2 = bt286.2.2 then ((mapsheetslaw12_awake.f k).bind fun t290 => (some t290)) else (none)) else (none)))) = some r := h
 clear h
 replace H := Option.bind_eq_some_iff.mp H
 obtain ⟨⟨t282, t283, t284⟩, A20, H⟩ := H
 replace H : ((mapsheetsref12_Parse.f k a0).bind fun bt286 => (if (t282 == bt286.1 && (t283 == bt286.2.1)) = true then (if t284 = bt286.2.2 then ((mapsheetslaw12_awake.f k).bind fun t290 => (some t290)) else (none)) else (none))) = some r := H
 have A2 := Aside0.mk A20
 clear A20
 replace H := Option.bind_eq_some_iff.mp H
 obtain ⟨⟨t286, t287, t288⟩, A30, H⟩ := H
 replace H : (if (t282 == t286 && (t283 == t287)) = true then (if t284 = t288 then ((mapsheetslaw12_awake.f k).bind fun t290 => (some t290)) else (none)) else (none)) = some r := H
 have A3 := Aside0.mk A30
 clear A30
 by_cases c4 : (t282 == t286 && (t283 == t287)) = true
 ·rw [if_pos c4] at H
  have c4b0 : (t282 == t286 && (t283 == t287)) = true := c4
  (try (have c4b1 : decide (t282 = t286 && (t283 == t287)) = true := by simpa using c4))
  (try (have c4b2 : (t282 == t286 && (t283 == t287)) = true := by simpa using c4))
  clear c4
  by_cases c5 : t284 = t288
  ·rw [if_pos c5] at H
   have c5b0 : (t284 == t288) = true := beq_iff_eq.mpr c5
   have c5b1 : (t284 != t288) = false := bne_eq_false_iff_eq.mpr c5
   clear c5
   replace H := Option.bind_eq_some_iff.mp H
   obtain ⟨t290, A60, H⟩ := H
   replace H : (some t290) = some r := H
   have A6 := Aside0.mk A60
   clear A60
   obtain rfl := Option.some.inj H
   go_enter Try.func5, Try.ntmps5
   go_wp2_with (first | ((with_reducible refine gate_callee (f := 15) rfl ?_); refine goesL_ (some 9) rfl rfl Try.func15 (by kernel_rfl) rfl #[.string a0] rfl (by (try simp only [List.map_toArray, List.map_cons, List.map_nil]); first | done | rfl | (simp only [List.length_drop, List.length_take]; rfl)) ?_; (with_reducible refine (sphere_Parse.calls k a0 t282 t283 t284 _ A2.out).mono ?_); rintro e w7 ⟨rfl, hb⟩; refine ⟨_, rfl, ?_⟩; have n0_ := Aside0.mk (below_step (by repeat (first | (with_reducible first | exact HB.out | apply ba | apply bn | apply bd) | exact HB.out)) hb); clear HB; have HB := n0_; clear n0_; (try clear hb); (try clear hb2); (try clear hk); (try clear hi)) | ((with_reducible refine gate_dst (N := 3) rfl ?_); refine box_event ?hg (N := 3) ?hd (cs := #[.int .i64 0, .int .i64 0]) (t := 23) ?hr ?_; (case hd => rfl); (case hg => rfl); (case hr => first | (go_simp; done) | (go_simp; rfl)); intro gb285 hg w8 hbox hb; have n0_ := Aside0.mk (below_step (by repeat (first | (with_reducible first | exact HB.out | apply ba | apply bn | apply bd) | exact HB.out)) hb); have n1_ := Aside0.mk (hbox); have n2_ := Aside0.mk ((by rw [hg]; exact (below_size (by repeat (first | (with_reducible first | exact HB.out | apply ba | apply bn | apply bd) | exact HB.out))) : w.heap.size ≤ gb285)); have n3_ := Aside0.mk ((by rw [hg]; exact (below_size (by repeat (first | (with_reducible first | exact HB.out | apply ba | apply bn | apply bd) | exact HB.out))) : w.heap.size ≤ gb285)); clear HB; have HB := n0_; have BK285 := n1_; have GW285 := n2_; have GE285 := n3_; clear n0_ n1_ n2_ n3_; clear hb hbox hg; have hcz9_0 : w8.cell? ⟨gb285, 0, none⟩ = some (.int .i64 0) := (blk_cell BK285.out 0).trans rfl; have hcz9_1 : w8.cell? ⟨gb285, 1, none⟩ = some (.int .i64 0) := (blk_cell BK285.out 1).trans rfl; have hfz9_0 := blk_frozen BK285.out 0; have hfz9_1 := blk_frozen BK285.out 1) | ((with_reducible refine gate_callee (f := 16) rfl ?_); refine goesL_ (some 14) rfl rfl Try.func16 (by kernel_rfl) rfl #[.string a0] rfl (by (try simp only [List.map_toArray, List.map_cons, List.map_nil]); first | done | rfl | (simp only [List.length_drop, List.length_take]; rfl)) ?_; (with_reducible refine (mapsheetsref12_Parse.calls k a0 t286 t287 t288 _ A3.out).mono ?_); rintro e w10 ⟨rfl, hb⟩; refine ⟨_, rfl, ?_⟩; have n0_ := Aside0.mk (blk_below (g := gb285) (o := .cells #[.int .i64 t282, .int .i64 t283] 23 (0, 0)) (by (with_reducible repeat (first | refine n_ ?_ _ | refine d_ ?_ | refine a_ ?_ _)); refine blk_put (cs := #[.int .i64 t282, .int .i64 0]) ?_ 1 _ rfl; (with_reducible repeat (first | refine n_ ?_ _ | refine d_ ?_ | refine a_ ?_ _)); refine blk_put (cs := #[.int .i64 0, .int .i64 0]) ?_ 0 _ rfl; (with_reducible repeat (first | refine n_ ?_ _ | refine d_ ?_ | refine a_ ?_ _)); exact BK285.out) hb); have n1_ := Aside0.mk (below_step (by repeat (first | (with_reducible first | exact HB.out | apply ba | apply bn | apply bd | refine bs ?_ GE285.out) | exact HB.out)) hb); clear BK285; clear HB; have BK285 := n0_; have HB := n1_; clear n0_ n1_; (try clear hb); (try clear hb2); (try clear hk); (try clear hi)) | ((with_reducible refine gate_dst (N := 5) rfl ?_); refine box_event ?hg (N := 5) ?hd (cs := #[.int .i64 0, .int .i64 0]) (t := 23) ?hr ?_; (case hd => rfl); (case hg => rfl); (case hr => first | (go_simp; done) | (go_simp; rfl)); intro gb289 hg w11 hbox hb; have n0_ := Aside0.mk (blk_below (g := gb285) (o := .cells #[.int .i64 t282, .int .i64 t283] 23 (0, 0)) (by (with_reducible repeat (first | refine n_ ?_ _ | refine d_ ?_ | refine a_ ?_ _)); exact BK285.out) hb); have n1_ := Aside0.mk (below_step (by repeat (first | (with_reducible first | exact HB.out | apply ba | apply bn | apply bd | refine bs ?_ GE285.out) | exact HB.out)) hb); have n2_ := Aside0.mk (hbox); have n3_ := Aside0.mk ((by rw [hg]; exact (below_size (by repeat (first | (with_reducible first | exact HB.out | apply ba | apply bn | apply bd | refine bs ?_ GE285.out) | exact HB.out))) : w.heap.size ≤ gb289)); have n4_ := Aside0.mk ((by rw [hg]; exact (below_size (by repeat (first | (with_reducible first | exact HB.out | apply ba | apply bn | apply bd | refine bs ?_ GE285.out) | exact HB.out))) : w.heap.size ≤ gb289)); have n5_ := Aside0.mk ((by rw [hg]; exact Nat.ne_of_lt (blk_lt (g := gb285) (o := .cells #[.int .i64 t282, .int .i64 t283] 23 (0, 0)) (by (with_reducible repeat (first | refine n_ ?_ _ | refine d_ ?_ | refine a_ ?_ _)); exact BK285.out)) : gb285 ≠ gb289)); have n6_ := Aside0.mk ((by rw [hg]; exact Nat.ne_of_gt (blk_lt (g := gb285) (o := .cells #[.int .i64 t282, .int .i64 t283] 23 (0, 0)) (by (with_reducible repeat (first | refine n_ ?_ _ | refine d_ ?_ | refine a_ ?_ _)); exact BK285.out)) : gb289 ≠ gb285)); clear BK285; clear HB; have BK285 := n0_; have HB := n1_; have BK289 := n2_; have GW289 := n3_; have GE289 := n4_; have NB285_289 := n5_; have NB289_285 := n6_; clear n0_ n1_ n2_ n3_ n4_ n5_ n6_; clear hb hbox hg; have hnb12 := NB289_285.out; have hnc12 := NB285_289.out; have hcz13_0 : w11.cell? ⟨gb289, 0, none⟩ = some (.int .i64 0) := (blk_cell BK289.out 0).trans rfl; have hcz13_1 : w11.cell? ⟨gb289, 1, none⟩ = some (.int .i64 0) := (blk_cell BK289.out 1).trans rfl; have hfz13_0 := blk_frozen BK289.out 0; have hfz13_1 := blk_frozen BK289.out 1; have hcz14_0 : w11.cell? ⟨gb285, 0, none⟩ = some (.int .i64 t282) := (blk_cell BK285.out 0).trans rfl; have hcz14_1 : w11.cell? ⟨gb285, 1, none⟩ = some (.int .i64 t283) := (blk_cell BK285.out 1).trans rfl; have hfz14_0 := blk_frozen BK285.out 0; have hfz14_1 := blk_frozen BK285.out 1) | (go_at_call 14; (with_reducible refine (mapsheetslaw12_awake.calls k  t290 _ A6.out).mono ?_); rintro e w15 ⟨rfl, hb⟩; have n0_ := Aside0.mk (blk_below (g := gb285) (o := .cells #[.int .i64 t282, .int .i64 t283] 23 (0, 0)) (by (with_reducible repeat (first | refine n_ ?_ _ | refine d_ ?_ | refine a_ ?_ _)); refine blk_far ?_ NB285_289.out _; (with_reducible repeat (first | refine n_ ?_ _ | refine d_ ?_ | refine a_ ?_ _)); refine blk_far ?_ NB285_289.out _; (with_reducible repeat (first | refine n_ ?_ _ | refine d_ ?_ | refine a_ ?_ _)); exact BK285.out) hb); have n1_ := Aside0.mk (blk_below (g := gb289) (o := .cells #[.int .i64 t286, .int .i64 t287] 23 (0, 0)) (by (with_reducible repeat (first | refine n_ ?_ _ | refine d_ ?_ | refine a_ ?_ _)); refine blk_put (cs := #[.int .i64 t286, .int .i64 0]) ?_ 1 _ rfl; (with_reducible repeat (first | refine n_ ?_ _ | refine d_ ?_ | refine a_ ?_ _)); refine blk_put (cs := #[.int .i64 0, .int .i64 0]) ?_ 0 _ rfl; (with_reducible repeat (first | refine n_ ?_ _ | refine d_ ?_ | refine a_ ?_ _)); exact BK289.out) hb); have n2_ := Aside0.mk (below_step (by repeat (first | (with_reducible first | exact HB.out | apply ba | apply bn | apply bd | refine bs ?_ GE285.out | refine bs ?_ GE289.out) | exact HB.out)) hb); clear BK285; clear BK289; clear HB; have BK285 := n0_; have BK289 := n1_; have HB := n2_; clear n0_ n1_ n2_; (try clear hb); (try clear hb2); (try clear hk); (try clear hi)))
   go_ret
   exact ⟨by first | rfl | (simp [errW_none, errW_some] <;> rfl) | (simp [*, errW_none, errW_some] <;> rfl), by repeat (first | (with_reducible first | exact HB.out | apply ba | apply bn | apply bd | refine bs ?_ GE285.out | refine bs ?_ GE289.out) | exact HB.out)⟩
  ·rw [if_neg c5] at H
   exact absurd H (by simp)
 ·rw [if_neg c4] at H
  exact absurd H (by simp)

/-- THE ONE PURE STATEMENT of mapsheetslaw12_SphereParses: yours. -/
def mapsheetslaw12_SphereParses.Pure : Prop := ∀ (a0 : ByteArray), a0.size ≤ 140737488351232 → ∃ k, mapsheetslaw12_SphereParses.f k a0 = some true
theorem mapsheetslaw12_SphereParses.walk (P : mapsheetslaw12_SphereParses.Pure) (a0 : ByteArray) (w : World) (w0 : a0.size ≤ 140737488351232) :
  Calls Try.prog 5 #[.string a0] w fun e w' => e = .returned (.bool true) ∧ Below w.heap.size w w' := by
 obtain ⟨k, h⟩ := P a0 w0
 refine (mapsheetslaw12_SphereParses.calls k a0 true w h).mono ?_
 rintro e w' ⟨rfl, hd⟩
 exact ⟨rfl, hd⟩

end Go.Proofs.Yteojklacaecmpaa.P
