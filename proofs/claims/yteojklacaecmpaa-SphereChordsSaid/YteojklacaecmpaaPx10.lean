-- Written by wip/tools/xprint.py (this session's program, over the kit's print.py) for this seat.
import Derived.Test.YteojklacaecmpaaPx0
import Derived.Test.YteojklacaecmpaaPx1
import Derived.Test.YteojklacaecmpaaPx2
import Derived.Test.YteojklacaecmpaaPx5
import Derived.Test.YteojklacaecmpaaPx6
import Derived.Test.YteojklacaecmpaaPx9
namespace Go.Proofs.Yteojklacaecmpaa.P
open Go.RowKit Go.Proofs.YteojklacaecmpaaW.PrintWords Go.Proofs.YteojklacaecmpaaW.PrintLast Go.Proofs.YteojklacaecmpaaW.PrintMore
attribute [local go_sem] max2_int min2_int max_two min_two max_three min_three max_four min_four   -- for this text's walks alone
set_option linter.unusedVariables false
set_option linter.unusedSimpArgs false

attribute [local go_sem high] eqA23
/-! ### mapsheetslaw12_awake: function 14 -/
def mapsheetslaw12_awake.j0 : Nat → Bool → Option (Bool)
 | 0, _ => none
 | k + 1, x38 => if x38 = true then (none) else ((sphere_Wrap.f 648001 5).bind fun bt238 => (if (bt238.1 == (-647999) && (bt238.2 == 5)) = true then ((sphere_Valid.f 648000 0).bind fun t240 => (if t240 = true then ((sphere_Valid.f 0 306001).bind fun t241 => (if t241 = true then (none) else ((sphere_Chord.f k 0 0 648000 0).bind fun t242 => (if t242 = 2147483648 then ((sphere_Chord.f k 0 0 324000 0).bind fun t243 => (some (t243 == 1518500249))) else (none))))) else (none))) else (none)))
def mapsheetslaw12_awake.f (k : Nat)  : Option (Bool) := (sphere_Parse.f k (⟨#[52, 56, 45, 49, 50, 45, 51, 48, 78, 32, 49, 54, 45, 50, 50, 45, 48, 48, 69]⟩ : ByteArray)).bind fun bt225 => ((sphere_Parse.f k (⟨#[48, 45, 48, 48, 45, 48, 48, 83, 32, 48, 45, 48, 48, 45, 48, 48, 69]⟩ : ByteArray)).bind fun bt229 => ((sphere_Parse.f k (⟨#[48, 45, 54, 48, 45, 48, 48, 78, 32, 48, 45, 48, 48, 45, 48, 48, 69]⟩ : ByteArray)).bind fun bt233 => (if (!(bt225.1 == 58920) || (!(bt225.2.1 == 173550))) = true then (mapsheetslaw12_awake.j0 k true) else (if bt225.2.2 = 0 then (if bt229.2.2 = 20 then (if bt233.2.2 = 2 then ((sphere_Print.f k (-1) 0).bind fun t237 => (mapsheetslaw12_awake.j0 k (t237.toList != ([48, 45, 48, 48, 45, 48, 48, 78, 32, 48, 45, 48, 48, 45, 48, 49, 87] : List UInt8)))) else (mapsheetslaw12_awake.j0 k true)) else (mapsheetslaw12_awake.j0 k true)) else (mapsheetslaw12_awake.j0 k true)))))
theorem mapsheetslaw12_awake.mono_l : ∀ k, (∀ y0, LeO (mapsheetslaw12_awake.j0 k y0) (mapsheetslaw12_awake.j0 (k + 1) y0))
 | 0 => fun _ r h => by simp [mapsheetslaw12_awake.j0] at h
 | k + 1 => by
  have ih0 := mapsheetslaw12_awake.mono_l k
  ·intro y0
   unfold mapsheetslaw12_awake.j0
   repeat' first
   | (with_reducible exact ih0 _)
   | (with_reducible exact sphere_Chord.mono _ _ _ _ _)
   | (with_reducible exact sphere_Parse.mono _ _)
   | (with_reducible exact sphere_Print.mono _ _ _)
   | (with_reducible exact LeO.refl _)
   | (with_reducible exact LeO.none _)
   | (with_reducible refine LeO.ite ?_ ?_)
   | (with_reducible refine LeO.bind ?_ (fun _ => ?_))
   | exact ih0 _
   | exact sphere_Chord.mono _ _ _ _ _
   | exact sphere_Parse.mono _ _
   | exact sphere_Print.mono _ _ _
   | exact LeO.none _
   | refine LeO.ite ?_ ?_
   | refine LeO.bind ?_ (fun _ => ?_)
theorem mapsheetslaw12_awake.mono : ∀ k, LeO (mapsheetslaw12_awake.f k ) (mapsheetslaw12_awake.f (k + 1) ) := by
 intro  k
 have ih0 := mapsheetslaw12_awake.mono_l k
 unfold mapsheetslaw12_awake.f
 repeat' first
   | (with_reducible exact ih0 _)
   | (with_reducible exact sphere_Chord.mono _ _ _ _ _)
   | (with_reducible exact sphere_Parse.mono _ _)
   | (with_reducible exact sphere_Print.mono _ _ _)
   | (with_reducible exact LeO.refl _)
   | (with_reducible exact LeO.none _)
   | (with_reducible refine LeO.ite ?_ ?_)
   | (with_reducible refine LeO.bind ?_ (fun _ => ?_))
   | exact ih0 _
   | exact sphere_Chord.mono _ _ _ _ _
   | exact sphere_Parse.mono _ _
   | exact sphere_Print.mono _ _ _
   | exact LeO.none _
   | refine LeO.ite ?_ ?_
   | refine LeO.bind ?_ (fun _ => ?_)
set_option maxHeartbeats 8000000 in
set_option maxRecDepth 100000 in
theorem mapsheetslaw12_awake.calls (k : Nat)  (r : Bool) (w : World) (h : mapsheetslaw12_awake.f k  = some r) :
  Calls Try.prog 14 #[] w fun e w' => e = .returned (.bool r) ∧ Below w.heap.size w w' := by
 have hu23 := Try.underlying23
 have HB := Aside0.mk (Below.refl w.heap.size w)
 have H : ((sphere_Parse.f k (⟨#[52, 56, 45, 49, 50, 45, 51, 48, 78, 32, 49, 54, 45, 50, 50, 45, 48, 48, 69]⟩ : ByteArray)).bind fun bt225 => ((sphere_Parse.f k (⟨#[48, 45, 48, 48, 45, 48, 48, 83, 32, 48, 45, 48, 48, 45, 48, 48, 69]⟩ : ByteArray)).bind fun bt229 => ((sphere_Parse.f k (⟨#[48, 45, 54, 48, 45, 48, 48, 78, 32, 48, 45, 48, 48, 45, 48, 48, 69]⟩ : ByteArray)).bind fun bt233 => (if (!(bt225.1 == 58920) || (!(bt225.2.1 == 173550))) = true then (mapsheetslaw12_awake.j0 k true) else (if bt225.2.2 = 0 then (if bt229.2.2 = 20 then (if bt233.2.2 = 2 then ((sphere_Print.f k (-1) 0).bind fun t237 => (mapsheetslaw12_awake.j0 k (t237.toList != ([48, 45, 48, 48, 45, 48, 48, 78, 32, 48, 45, 48, 48, 45, 48, 49, 87] : List UInt8)))) else (mapsheetslaw12_awake.j0 k true)) else (mapsheetslaw12_awake.j0 k true)) else (mapsheetslaw12_awake.j0 k true)))))) = some r := h
 clear h
 replace H := Option.bind_eq_some_iff.mp H
 obtain ⟨⟨t225, t226, t227⟩, A10, H⟩ := H
 replace H : ((sphere_Parse.f k (⟨#[48, 45, 48, 48, 45, 48, 48, 83, 32, 48, 45, 48, 48, 45, 48, 48, 69]⟩ : ByteArray)).bind fun bt229 => ((sphere_Parse.f k (⟨#[48, 45, 54, 48, 45, 48, 48, 78, 32, 48, 45, 48, 48, 45, 48, 48, 69]⟩ : ByteArray)).bind fun bt233 => (if (!(t225 == 58920) || (!(t226 == 173550))) = true then (mapsheetslaw12_awake.j0 k true) else (if t227 = 0 then (if bt229.2.2 = 20 then (if bt233.2.2 = 2 then ((sphere_Print.f k (-1) 0).bind fun t237 => (mapsheetslaw12_awake.j0 k (t237.toList != ([48, 45, 48, 48, 45, 48, 48, 78, 32, 48, 45, 48, 48, 45, 48, 49, 87] : List UInt8)))) else (mapsheetslaw12_awake.j0 k true)) else (mapsheetslaw12_awake.j0 k true)) else (mapsheetslaw12_awake.j0 k true))))) = some r := H
 have A1 := Aside0.mk A10
 clear A10
 replace H := Option.bind_eq_some_iff.mp H
 obtain ⟨⟨t229, t230, t231⟩, A20, H⟩ := H
 replace H : ((sphere_Parse.f k (⟨#[48, 45, 54, 48, 45, 48, 48, 78, 32, 48, 45, 48, 48, 45, 48, 48, 69]⟩ : ByteArray)).bind fun bt233 => (if (!(t225 == 58920) || (!(t226 == 173550))) = true then (mapsheetslaw12_awake.j0 k true) else (if t227 = 0 then (if t231 = 20 then (if bt233.2.2 = 2 then ((sphere_Print.f k (-1) 0).bind fun t237 => (mapsheetslaw12_awake.j0 k (t237.toList != ([48, 45, 48, 48, 45, 48, 48, 78, 32, 48, 45, 48, 48, 45, 48, 49, 87] : List UInt8)))) else (mapsheetslaw12_awake.j0 k true)) else (mapsheetslaw12_awake.j0 k true)) else (mapsheetslaw12_awake.j0 k true)))) = some r := H
 have A2 := Aside0.mk A20
 clear A20
 replace H := Option.bind_eq_some_iff.mp H
 obtain ⟨⟨t233, t234, t235⟩, A30, H⟩ := H
 replace H : (if (!(t225 == 58920) || (!(t226 == 173550))) = true then (mapsheetslaw12_awake.j0 k true) else (if t227 = 0 then (if t231 = 20 then (if t235 = 2 then ((sphere_Print.f k (-1) 0).bind fun t237 => (mapsheetslaw12_awake.j0 k (t237.toList != ([48, 45, 48, 48, 45, 48, 48, 78, 32, 48, 45, 48, 48, 45, 48, 49, 87] : List UInt8)))) else (mapsheetslaw12_awake.j0 k true)) else (mapsheetslaw12_awake.j0 k true)) else (mapsheetslaw12_awake.j0 k true))) = some r := H
 have A3 := Aside0.mk A30
 clear A30
 have HC4 := Aside0.mk H
 clear H
 go_enter Try.func14, Try.ntmps14
 go_upto_region 4 with (first | ((with_reducible refine gate_callee (f := 15) rfl ?_); refine goesL_ (some 8) rfl rfl Try.func15 (by kernel_rfl) rfl #[.string (⟨#[52, 56, 45, 49, 50, 45, 51, 48, 78, 32, 49, 54, 45, 50, 50, 45, 48, 48, 69]⟩ : ByteArray)] rfl (by (try simp only [List.map_toArray, List.map_cons, List.map_nil]); first | done | rfl | (simp only [List.length_drop, List.length_take]; rfl)) ?_; (with_reducible refine (sphere_Parse.calls k (⟨#[52, 56, 45, 49, 50, 45, 51, 48, 78, 32, 49, 54, 45, 50, 50, 45, 48, 48, 69]⟩ : ByteArray) t225 t226 t227 _ A1.out).mono ?_); rintro e w5 ⟨rfl, hb⟩; refine ⟨_, rfl, ?_⟩; have n0_ := Aside0.mk (below_step (by with_reducible repeat first | exact HB.out | apply ba | apply bn | apply bd) hb); clear HB; have HB := n0_; clear n0_; (try clear hb); (try clear hb2); (try clear hk); (try clear hi)) | ((with_reducible refine gate_dst (N := 1) rfl ?_); refine box_event ?hg (N := 1) ?hd (cs := #[.int .i64 0, .int .i64 0]) (t := 23) ?hr ?_; (case hd => rfl); (case hg => rfl); (case hr => first | (go_simp; done) | (go_simp; rfl)); intro gb228 hg w6 hbox hb; have n0_ := Aside0.mk (below_step (by with_reducible repeat first | exact HB.out | apply ba | apply bn | apply bd) hb); have n1_ := Aside0.mk (hbox); have n2_ := Aside0.mk ((by rw [hg]; exact (below_size (by with_reducible repeat first | exact HB.out | apply ba | apply bn | apply bd)) : w.heap.size ≤ gb228)); have n3_ := Aside0.mk ((by rw [hg]; exact (below_size (by with_reducible repeat first | exact HB.out | apply ba | apply bn | apply bd)) : w.heap.size ≤ gb228)); clear HB; have HB := n0_; have BK228 := n1_; have GW228 := n2_; have GE228 := n3_; clear n0_ n1_ n2_ n3_; clear hb hbox hg; have hcz7_0 : w6.cell? ⟨gb228, 0, none⟩ = some (.int .i64 0) := (blk_cell BK228.out 0).trans rfl; have hcz7_1 : w6.cell? ⟨gb228, 1, none⟩ = some (.int .i64 0) := (blk_cell BK228.out 1).trans rfl; have hfz7_0 := blk_frozen BK228.out 0; have hfz7_1 := blk_frozen BK228.out 1) | ((with_reducible refine gate_callee (f := 15) rfl ?_); refine goesL_ (some 12) rfl rfl Try.func15 (by kernel_rfl) rfl #[.string (⟨#[48, 45, 48, 48, 45, 48, 48, 83, 32, 48, 45, 48, 48, 45, 48, 48, 69]⟩ : ByteArray)] rfl (by (try simp only [List.map_toArray, List.map_cons, List.map_nil]); first | done | rfl | (simp only [List.length_drop, List.length_take]; rfl)) ?_; (with_reducible refine (sphere_Parse.calls k (⟨#[48, 45, 48, 48, 45, 48, 48, 83, 32, 48, 45, 48, 48, 45, 48, 48, 69]⟩ : ByteArray) t229 t230 t231 _ A2.out).mono ?_); rintro e w8 ⟨rfl, hb⟩; refine ⟨_, rfl, ?_⟩; have n0_ := Aside0.mk (blk_below (g := gb228) (o := .cells #[.int .i64 t225, .int .i64 t226] 23 (0, 0)) (by (with_reducible repeat first | refine n_ ?_ _ | refine d_ ?_ | refine a_ ?_ _); refine blk_put (cs := #[.int .i64 t225, .int .i64 0]) ?_ 1 _ rfl; (with_reducible repeat first | refine n_ ?_ _ | refine d_ ?_ | refine a_ ?_ _); refine blk_put (cs := #[.int .i64 0, .int .i64 0]) ?_ 0 _ rfl; (with_reducible repeat first | refine n_ ?_ _ | refine d_ ?_ | refine a_ ?_ _); exact BK228.out) hb); have n1_ := Aside0.mk (below_step (by with_reducible repeat first | exact HB.out | apply ba | apply bn | apply bd | refine bs ?_ GE228.out) hb); clear BK228; clear HB; have BK228 := n0_; have HB := n1_; clear n0_ n1_; (try clear hb); (try clear hb2); (try clear hk); (try clear hi)) | ((with_reducible refine gate_dst (N := 3) rfl ?_); refine box_event ?hg (N := 3) ?hd (cs := #[.int .i64 0, .int .i64 0]) (t := 23) ?hr ?_; (case hd => rfl); (case hg => rfl); (case hr => first | (go_simp; done) | (go_simp; rfl)); intro gb232 hg w9 hbox hb; have n0_ := Aside0.mk (blk_below (g := gb228) (o := .cells #[.int .i64 t225, .int .i64 t226] 23 (0, 0)) BK228.out hb); have n1_ := Aside0.mk (below_step (by with_reducible repeat first | exact HB.out | apply ba | apply bn | apply bd | refine bs ?_ GE228.out) hb); have n2_ := Aside0.mk (hbox); have n3_ := Aside0.mk ((by rw [hg]; exact (below_size (by with_reducible repeat first | exact HB.out | apply ba | apply bn | apply bd | refine bs ?_ GE228.out)) : w.heap.size ≤ gb232)); have n4_ := Aside0.mk ((by rw [hg]; exact (below_size (by with_reducible repeat first | exact HB.out | apply ba | apply bn | apply bd | refine bs ?_ GE228.out)) : w.heap.size ≤ gb232)); have n5_ := Aside0.mk ((by rw [hg]; exact Nat.ne_of_lt (blk_lt (g := gb228) (o := .cells #[.int .i64 t225, .int .i64 t226] 23 (0, 0)) BK228.out) : gb228 ≠ gb232)); have n6_ := Aside0.mk ((by rw [hg]; exact Nat.ne_of_gt (blk_lt (g := gb228) (o := .cells #[.int .i64 t225, .int .i64 t226] 23 (0, 0)) BK228.out) : gb232 ≠ gb228)); clear BK228; clear HB; have BK228 := n0_; have HB := n1_; have BK232 := n2_; have GW232 := n3_; have GE232 := n4_; have NB228_232 := n5_; have NB232_228 := n6_; clear n0_ n1_ n2_ n3_ n4_ n5_ n6_; clear hb hbox hg; have hnb10 := NB232_228.out; have hnc10 := NB228_232.out; have hcz11_0 : w9.cell? ⟨gb232, 0, none⟩ = some (.int .i64 0) := (blk_cell BK232.out 0).trans rfl; have hcz11_1 : w9.cell? ⟨gb232, 1, none⟩ = some (.int .i64 0) := (blk_cell BK232.out 1).trans rfl; have hfz11_0 := blk_frozen BK232.out 0; have hfz11_1 := blk_frozen BK232.out 1) | ((with_reducible refine gate_callee (f := 15) rfl ?_); refine goesL_ (some 16) rfl rfl Try.func15 (by kernel_rfl) rfl #[.string (⟨#[48, 45, 54, 48, 45, 48, 48, 78, 32, 48, 45, 48, 48, 45, 48, 48, 69]⟩ : ByteArray)] rfl (by (try simp only [List.map_toArray, List.map_cons, List.map_nil]); first | done | rfl | (simp only [List.length_drop, List.length_take]; rfl)) ?_; (with_reducible refine (sphere_Parse.calls k (⟨#[48, 45, 54, 48, 45, 48, 48, 78, 32, 48, 45, 48, 48, 45, 48, 48, 69]⟩ : ByteArray) t233 t234 t235 _ A3.out).mono ?_); rintro e w12 ⟨rfl, hb⟩; refine ⟨_, rfl, ?_⟩; have n0_ := Aside0.mk (blk_below (g := gb228) (o := .cells #[.int .i64 t225, .int .i64 t226] 23 (0, 0)) (by (with_reducible repeat first | refine n_ ?_ _ | refine d_ ?_ | refine a_ ?_ _); refine blk_far ?_ NB228_232.out _; (with_reducible repeat first | refine n_ ?_ _ | refine d_ ?_ | refine a_ ?_ _); refine blk_far ?_ NB228_232.out _; (with_reducible repeat first | refine n_ ?_ _ | refine d_ ?_ | refine a_ ?_ _); exact BK228.out) hb); have n1_ := Aside0.mk (blk_below (g := gb232) (o := .cells #[.int .i64 t229, .int .i64 t230] 23 (0, 0)) (by (with_reducible repeat first | refine n_ ?_ _ | refine d_ ?_ | refine a_ ?_ _); refine blk_put (cs := #[.int .i64 t229, .int .i64 0]) ?_ 1 _ rfl; (with_reducible repeat first | refine n_ ?_ _ | refine d_ ?_ | refine a_ ?_ _); refine blk_put (cs := #[.int .i64 0, .int .i64 0]) ?_ 0 _ rfl; (with_reducible repeat first | refine n_ ?_ _ | refine d_ ?_ | refine a_ ?_ _); exact BK232.out) hb); have n2_ := Aside0.mk (below_step (by with_reducible repeat first | exact HB.out | apply ba | apply bn | apply bd | refine bs ?_ GE228.out | refine bs ?_ GE232.out) hb); clear BK228; clear BK232; clear HB; have BK228 := n0_; have BK232 := n1_; have HB := n2_; clear n0_ n1_ n2_; (try clear hb); (try clear hb2); (try clear hk); (try clear hi)) | ((with_reducible refine gate_dst (N := 5) rfl ?_); refine box_event ?hg (N := 5) ?hd (cs := #[.int .i64 0, .int .i64 0]) (t := 23) ?hr ?_; (case hd => rfl); (case hg => rfl); (case hr => first | (go_simp; done) | (go_simp; rfl)); intro gb236 hg w13 hbox hb; have n0_ := Aside0.mk (blk_below (g := gb228) (o := .cells #[.int .i64 t225, .int .i64 t226] 23 (0, 0)) BK228.out hb); have n1_ := Aside0.mk (blk_below (g := gb232) (o := .cells #[.int .i64 t229, .int .i64 t230] 23 (0, 0)) BK232.out hb); have n2_ := Aside0.mk (below_step (by with_reducible repeat first | exact HB.out | apply ba | apply bn | apply bd | refine bs ?_ GE228.out | refine bs ?_ GE232.out) hb); have n3_ := Aside0.mk (hbox); have n4_ := Aside0.mk ((by rw [hg]; exact (below_size (by with_reducible repeat first | exact HB.out | apply ba | apply bn | apply bd | refine bs ?_ GE228.out | refine bs ?_ GE232.out)) : w.heap.size ≤ gb236)); have n5_ := Aside0.mk ((by rw [hg]; exact (below_size (by with_reducible repeat first | exact HB.out | apply ba | apply bn | apply bd | refine bs ?_ GE228.out | refine bs ?_ GE232.out)) : w.heap.size ≤ gb236)); have n6_ := Aside0.mk ((by rw [hg]; exact Nat.ne_of_lt (blk_lt (g := gb228) (o := .cells #[.int .i64 t225, .int .i64 t226] 23 (0, 0)) BK228.out) : gb228 ≠ gb236)); have n7_ := Aside0.mk ((by rw [hg]; exact Nat.ne_of_gt (blk_lt (g := gb228) (o := .cells #[.int .i64 t225, .int .i64 t226] 23 (0, 0)) BK228.out) : gb236 ≠ gb228)); have n8_ := Aside0.mk ((by rw [hg]; exact Nat.ne_of_lt (blk_lt (g := gb232) (o := .cells #[.int .i64 t229, .int .i64 t230] 23 (0, 0)) BK232.out) : gb232 ≠ gb236)); have n9_ := Aside0.mk ((by rw [hg]; exact Nat.ne_of_gt (blk_lt (g := gb232) (o := .cells #[.int .i64 t229, .int .i64 t230] 23 (0, 0)) BK232.out) : gb236 ≠ gb232)); clear BK228; clear BK232; clear HB; have BK228 := n0_; have BK232 := n1_; have HB := n2_; have BK236 := n3_; have GW236 := n4_; have GE236 := n5_; have NB228_236 := n6_; have NB236_228 := n7_; have NB232_236 := n8_; have NB236_232 := n9_; clear n0_ n1_ n2_ n3_ n4_ n5_ n6_ n7_ n8_ n9_; clear hb hbox hg; have hnb14 := NB236_228.out; have hnc14 := NB228_236.out; have hnb15 := NB236_232.out; have hnc15 := NB232_236.out; have hcz16_0 : w13.cell? ⟨gb236, 0, none⟩ = some (.int .i64 0) := (blk_cell BK236.out 0).trans rfl; have hcz16_1 : w13.cell? ⟨gb236, 1, none⟩ = some (.int .i64 0) := (blk_cell BK236.out 1).trans rfl; have hfz16_0 := blk_frozen BK236.out 0; have hfz16_1 := blk_frozen BK236.out 1))
 (try simp only [Act.put, s1, s2, s3])
 go_cut [38] (fun v38 wc => ∃ (kq : Nat) (x38_3 : Bool), v38 = .bool x38_3 ∧ Aside0 (mapsheetslaw12_awake.j0 kq x38_3 = some r) ∧ Aside0 (kq ≤ k) ∧ Aside0 (wc.heap[gb228]? = some (.cells #[.int .i64 t225, .int .i64 t226] 23 (0, 0))) ∧ Aside0 (wc.heap[gb232]? = some (.cells #[.int .i64 t229, .int .i64 t230] 23 (0, 0))) ∧ Aside0 (wc.heap[gb236]? = some (.cells #[.int .i64 t233, .int .i64 t234] 23 (0, 0))) ∧ Aside0 (Below w.heap.size w wc))
 case first =>
  have H := HC4.out
  clear HC4
  by_cases c17 : (!(t225 == 58920) || (!(t226 == 173550))) = true
  ·rw [if_pos c17] at H
   have c17b0 : (!(t225 == 58920) || (!(t226 == 173550))) = true := c17
   clear c17
   (first | rw [c17b0] | (simp only [i64_w, i32_w]; rw [c17b0]) | skip)
   have H' := Aside0.mk H
   clear H
   have hnb18 := NB228_232.out
   have hnc18 := NB232_228.out
   have hnb19 := NB228_236.out
   have hnc19 := NB236_228.out
   have hcz20_0 : w13.cell? ⟨gb228, 0, none⟩ = some (.int .i64 t225) := (blk_cell BK228.out 0).trans rfl
   have hcz20_1 : w13.cell? ⟨gb228, 1, none⟩ = some (.int .i64 t226) := (blk_cell BK228.out 1).trans rfl
   have hfz20_0 := blk_frozen BK228.out 0
   have hfz20_1 := blk_frozen BK228.out 1
   go_wp2
   go_meet
   case rel => exact ⟨_, (true), (by first | rfl | (simp; done) | (simp [*]; done)), H', ⟨by first | omega | exact Nat.le_refl _⟩, ⟨by (with_reducible repeat first | refine n_ ?_ _ | refine d_ ?_ | refine a_ ?_ _); refine blk_far ?_ NB228_236.out _; (with_reducible repeat first | refine n_ ?_ _ | refine d_ ?_ | refine a_ ?_ _); refine blk_far ?_ NB228_236.out _; (with_reducible repeat first | refine n_ ?_ _ | refine d_ ?_ | refine a_ ?_ _); exact BK228.out⟩, ⟨by (with_reducible repeat first | refine n_ ?_ _ | refine d_ ?_ | refine a_ ?_ _); refine blk_far ?_ NB232_236.out _; (with_reducible repeat first | refine n_ ?_ _ | refine d_ ?_ | refine a_ ?_ _); refine blk_far ?_ NB232_236.out _; (with_reducible repeat first | refine n_ ?_ _ | refine d_ ?_ | refine a_ ?_ _); exact BK232.out⟩, ⟨by (with_reducible repeat first | refine n_ ?_ _ | refine d_ ?_ | refine a_ ?_ _); refine blk_put (cs := #[.int .i64 t233, .int .i64 0]) ?_ 1 _ rfl; (with_reducible repeat first | refine n_ ?_ _ | refine d_ ?_ | refine a_ ?_ _); refine blk_put (cs := #[.int .i64 0, .int .i64 0]) ?_ 0 _ rfl; (with_reducible repeat first | refine n_ ?_ _ | refine d_ ?_ | refine a_ ?_ _); exact BK236.out⟩, ⟨by with_reducible repeat first | exact HB.out | apply ba | apply bn | apply bd | refine bs ?_ GE228.out | refine bs ?_ GE232.out | refine bs ?_ GE236.out⟩⟩
  ·rw [if_neg c17] at H
   have c17b0 : (!(t225 == 58920) || (!(t226 == 173550))) = false := by simpa using c17
   clear c17
   (first | rw [c17b0] | (simp only [i64_w, i32_w]; rw [c17b0]) | skip)
   by_cases c21 : t227 = 0
   ·rw [if_pos c21] at H
    have c21b0 : (t227 == 0) = true := beq_iff_eq.mpr c21
    have c21b1 : (t227 != 0) = false := bne_eq_false_iff_eq.mpr c21
    clear c21
    by_cases c22 : t231 = 20
    ·rw [if_pos c22] at H
     have c22b0 : (t231 == 20) = true := beq_iff_eq.mpr c22
     have c22b1 : (t231 != 20) = false := bne_eq_false_iff_eq.mpr c22
     clear c22
     by_cases c23 : t235 = 2
     ·rw [if_pos c23] at H
      have c23b0 : (t235 == 2) = true := beq_iff_eq.mpr c23
      have c23b1 : (t235 != 2) = false := bne_eq_false_iff_eq.mpr c23
      clear c23
      replace H := Option.bind_eq_some_iff.mp H
      obtain ⟨t237, A240, H⟩ := H
      replace H : (mapsheetslaw12_awake.j0 k (t237.toList != ([48, 45, 48, 48, 45, 48, 48, 78, 32, 48, 45, 48, 48, 45, 48, 49, 87] : List UInt8))) = some r := H
      have A24 := Aside0.mk A240
      clear A240
      have H' := Aside0.mk H
      clear H
      have hnb25 := NB228_232.out
      have hnc25 := NB232_228.out
      have hnb26 := NB228_236.out
      have hnc26 := NB236_228.out
      have hcz27_0 : w13.cell? ⟨gb228, 0, none⟩ = some (.int .i64 t225) := (blk_cell BK228.out 0).trans rfl
      have hcz27_1 : w13.cell? ⟨gb228, 1, none⟩ = some (.int .i64 t226) := (blk_cell BK228.out 1).trans rfl
      have hfz27_0 := blk_frozen BK228.out 0
      have hfz27_1 := blk_frozen BK228.out 1
      go_wp2_with (first | (go_at_call 17; (with_reducible refine (sphere_Print.calls k (-1) 0 t237 _ A24.out).mono ?_); rintro e w28 ⟨rfl, hb⟩; have n0_ := Aside0.mk (blk_below (g := gb228) (o := .cells #[.int .i64 t225, .int .i64 t226] 23 (0, 0)) (by (with_reducible repeat first | refine n_ ?_ _ | refine d_ ?_ | refine a_ ?_ _); refine blk_far ?_ NB228_236.out _; (with_reducible repeat first | refine n_ ?_ _ | refine d_ ?_ | refine a_ ?_ _); refine blk_far ?_ NB228_236.out _; (with_reducible repeat first | refine n_ ?_ _ | refine d_ ?_ | refine a_ ?_ _); exact BK228.out) hb); have n1_ := Aside0.mk (blk_below (g := gb232) (o := .cells #[.int .i64 t229, .int .i64 t230] 23 (0, 0)) (by (with_reducible repeat first | refine n_ ?_ _ | refine d_ ?_ | refine a_ ?_ _); refine blk_far ?_ NB232_236.out _; (with_reducible repeat first | refine n_ ?_ _ | refine d_ ?_ | refine a_ ?_ _); refine blk_far ?_ NB232_236.out _; (with_reducible repeat first | refine n_ ?_ _ | refine d_ ?_ | refine a_ ?_ _); exact BK232.out) hb); have n2_ := Aside0.mk (blk_below (g := gb236) (o := .cells #[.int .i64 t233, .int .i64 t234] 23 (0, 0)) (by (with_reducible repeat first | refine n_ ?_ _ | refine d_ ?_ | refine a_ ?_ _); refine blk_put (cs := #[.int .i64 t233, .int .i64 0]) ?_ 1 _ rfl; (with_reducible repeat first | refine n_ ?_ _ | refine d_ ?_ | refine a_ ?_ _); refine blk_put (cs := #[.int .i64 0, .int .i64 0]) ?_ 0 _ rfl; (with_reducible repeat first | refine n_ ?_ _ | refine d_ ?_ | refine a_ ?_ _); exact BK236.out) hb); have n3_ := Aside0.mk (below_step (by with_reducible repeat first | exact HB.out | apply ba | apply bn | apply bd | refine bs ?_ GE228.out | refine bs ?_ GE232.out | refine bs ?_ GE236.out) hb); clear BK228; clear BK232; clear BK236; clear HB; have BK228 := n0_; have BK232 := n1_; have BK236 := n2_; have HB := n3_; clear n0_ n1_ n2_ n3_; (try clear hb); (try clear hb2); (try clear hk); (try clear hi)))
      go_meet
      case rel => exact ⟨_, ((t237.toList != ([48, 45, 48, 48, 45, 48, 48, 78, 32, 48, 45, 48, 48, 45, 48, 49, 87] : List UInt8))), (by first | rfl | (simp; done) | (simp [*]; done)), H', ⟨by first | omega | exact Nat.le_refl _⟩, BK228, BK232, BK236, ⟨by with_reducible repeat first | exact HB.out | apply ba | apply bn | apply bd | refine bs ?_ GE228.out | refine bs ?_ GE232.out | refine bs ?_ GE236.out⟩⟩
     ·rw [if_neg c23] at H
      have c23b0 : (t235 == 2) = false := beq_eq_false_iff_ne.mpr c23
      have c23b1 : (t235 != 2) = true := bne_iff_ne.mpr c23
      have H' := Aside0.mk H
      clear H
      have hnb29 := NB228_232.out
      have hnc29 := NB232_228.out
      have hnb30 := NB228_236.out
      have hnc30 := NB236_228.out
      have hcz31_0 : w13.cell? ⟨gb228, 0, none⟩ = some (.int .i64 t225) := (blk_cell BK228.out 0).trans rfl
      have hcz31_1 : w13.cell? ⟨gb228, 1, none⟩ = some (.int .i64 t226) := (blk_cell BK228.out 1).trans rfl
      have hfz31_0 := blk_frozen BK228.out 0
      have hfz31_1 := blk_frozen BK228.out 1
      go_wp2
      go_meet
      case rel => exact ⟨_, (true), (by first | rfl | (simp; done) | (simp [*]; done)), H', ⟨by first | omega | exact Nat.le_refl _⟩, ⟨by (with_reducible repeat first | refine n_ ?_ _ | refine d_ ?_ | refine a_ ?_ _); refine blk_far ?_ NB228_236.out _; (with_reducible repeat first | refine n_ ?_ _ | refine d_ ?_ | refine a_ ?_ _); refine blk_far ?_ NB228_236.out _; (with_reducible repeat first | refine n_ ?_ _ | refine d_ ?_ | refine a_ ?_ _); exact BK228.out⟩, ⟨by (with_reducible repeat first | refine n_ ?_ _ | refine d_ ?_ | refine a_ ?_ _); refine blk_far ?_ NB232_236.out _; (with_reducible repeat first | refine n_ ?_ _ | refine d_ ?_ | refine a_ ?_ _); refine blk_far ?_ NB232_236.out _; (with_reducible repeat first | refine n_ ?_ _ | refine d_ ?_ | refine a_ ?_ _); exact BK232.out⟩, ⟨by (with_reducible repeat first | refine n_ ?_ _ | refine d_ ?_ | refine a_ ?_ _); refine blk_put (cs := #[.int .i64 t233, .int .i64 0]) ?_ 1 _ rfl; (with_reducible repeat first | refine n_ ?_ _ | refine d_ ?_ | refine a_ ?_ _); refine blk_put (cs := #[.int .i64 0, .int .i64 0]) ?_ 0 _ rfl; (with_reducible repeat first | refine n_ ?_ _ | refine d_ ?_ | refine a_ ?_ _); exact BK236.out⟩, ⟨by with_reducible repeat first | exact HB.out | apply ba | apply bn | apply bd | refine bs ?_ GE228.out | refine bs ?_ GE232.out | refine bs ?_ GE236.out⟩⟩
    ·rw [if_neg c22] at H
     have c22b0 : (t231 == 20) = false := beq_eq_false_iff_ne.mpr c22
     have c22b1 : (t231 != 20) = true := bne_iff_ne.mpr c22
     have H' := Aside0.mk H
     clear H
     have hnb32 := NB228_232.out
     have hnc32 := NB232_228.out
     have hnb33 := NB228_236.out
     have hnc33 := NB236_228.out
     have hcz34_0 : w13.cell? ⟨gb228, 0, none⟩ = some (.int .i64 t225) := (blk_cell BK228.out 0).trans rfl
     have hcz34_1 : w13.cell? ⟨gb228, 1, none⟩ = some (.int .i64 t226) := (blk_cell BK228.out 1).trans rfl
     have hfz34_0 := blk_frozen BK228.out 0
     have hfz34_1 := blk_frozen BK228.out 1
     go_wp2
     go_meet
     case rel => exact ⟨_, (true), (by first | rfl | (simp; done) | (simp [*]; done)), H', ⟨by first | omega | exact Nat.le_refl _⟩, ⟨by (with_reducible repeat first | refine n_ ?_ _ | refine d_ ?_ | refine a_ ?_ _); refine blk_far ?_ NB228_236.out _; (with_reducible repeat first | refine n_ ?_ _ | refine d_ ?_ | refine a_ ?_ _); refine blk_far ?_ NB228_236.out _; (with_reducible repeat first | refine n_ ?_ _ | refine d_ ?_ | refine a_ ?_ _); exact BK228.out⟩, ⟨by (with_reducible repeat first | refine n_ ?_ _ | refine d_ ?_ | refine a_ ?_ _); refine blk_far ?_ NB232_236.out _; (with_reducible repeat first | refine n_ ?_ _ | refine d_ ?_ | refine a_ ?_ _); refine blk_far ?_ NB232_236.out _; (with_reducible repeat first | refine n_ ?_ _ | refine d_ ?_ | refine a_ ?_ _); exact BK232.out⟩, ⟨by (with_reducible repeat first | refine n_ ?_ _ | refine d_ ?_ | refine a_ ?_ _); refine blk_put (cs := #[.int .i64 t233, .int .i64 0]) ?_ 1 _ rfl; (with_reducible repeat first | refine n_ ?_ _ | refine d_ ?_ | refine a_ ?_ _); refine blk_put (cs := #[.int .i64 0, .int .i64 0]) ?_ 0 _ rfl; (with_reducible repeat first | refine n_ ?_ _ | refine d_ ?_ | refine a_ ?_ _); exact BK236.out⟩, ⟨by with_reducible repeat first | exact HB.out | apply ba | apply bn | apply bd | refine bs ?_ GE228.out | refine bs ?_ GE232.out | refine bs ?_ GE236.out⟩⟩
   ·rw [if_neg c21] at H
    have c21b0 : (t227 == 0) = false := beq_eq_false_iff_ne.mpr c21
    have c21b1 : (t227 != 0) = true := bne_iff_ne.mpr c21
    have H' := Aside0.mk H
    clear H
    have hnb35 := NB228_232.out
    have hnc35 := NB232_228.out
    have hnb36 := NB228_236.out
    have hnc36 := NB236_228.out
    have hcz37_0 : w13.cell? ⟨gb228, 0, none⟩ = some (.int .i64 t225) := (blk_cell BK228.out 0).trans rfl
    have hcz37_1 : w13.cell? ⟨gb228, 1, none⟩ = some (.int .i64 t226) := (blk_cell BK228.out 1).trans rfl
    have hfz37_0 := blk_frozen BK228.out 0
    have hfz37_1 := blk_frozen BK228.out 1
    go_wp2
    go_meet
    case rel => exact ⟨_, (true), (by first | rfl | (simp; done) | (simp [*]; done)), H', ⟨by first | omega | exact Nat.le_refl _⟩, ⟨by (with_reducible repeat first | refine n_ ?_ _ | refine d_ ?_ | refine a_ ?_ _); refine blk_far ?_ NB228_236.out _; (with_reducible repeat first | refine n_ ?_ _ | refine d_ ?_ | refine a_ ?_ _); refine blk_far ?_ NB228_236.out _; (with_reducible repeat first | refine n_ ?_ _ | refine d_ ?_ | refine a_ ?_ _); exact BK228.out⟩, ⟨by (with_reducible repeat first | refine n_ ?_ _ | refine d_ ?_ | refine a_ ?_ _); refine blk_far ?_ NB232_236.out _; (with_reducible repeat first | refine n_ ?_ _ | refine d_ ?_ | refine a_ ?_ _); refine blk_far ?_ NB232_236.out _; (with_reducible repeat first | refine n_ ?_ _ | refine d_ ?_ | refine a_ ?_ _); exact BK232.out⟩, ⟨by (with_reducible repeat first | refine n_ ?_ _ | refine d_ ?_ | refine a_ ?_ _); refine blk_put (cs := #[.int .i64 t233, .int .i64 0]) ?_ 1 _ rfl; (with_reducible repeat first | refine n_ ?_ _ | refine d_ ?_ | refine a_ ?_ _); refine blk_put (cs := #[.int .i64 0, .int .i64 0]) ?_ 0 _ rfl; (with_reducible repeat first | refine n_ ?_ _ | refine d_ ?_ | refine a_ ?_ _); exact BK236.out⟩, ⟨by with_reducible repeat first | exact HB.out | apply ba | apply bn | apply bd | refine bs ?_ GE228.out | refine bs ?_ GE232.out | refine bs ?_ GE236.out⟩⟩
 case rest =>
  clear HC4
  try clear c1
  try clear c2
  try clear p2
  try clear c3
  try clear c10
  try clear c14
  try clear c15
  try clear c17
  try clear c17b0
  try clear c18
  try clear c19
  try clear c21
  try clear c21b0
  try clear c21b1
  try clear c22
  try clear c22b0
  try clear c22b1
  try clear c23
  try clear c23b0
  try clear c23b1
  try clear c25
  try clear c26
  try clear c29
  try clear c30
  try clear c32
  try clear c33
  try clear c35
  try clear c36
  try clear hcz11_0
  try clear hcz11_1
  try clear hcz16_0
  try clear hcz16_1
  try clear hcz20_0
  try clear hcz20_1
  try clear hcz27_0
  try clear hcz27_1
  try clear hcz31_0
  try clear hcz31_1
  try clear hcz34_0
  try clear hcz34_1
  try clear hcz37_0
  try clear hcz37_1
  try clear hcz7_0
  try clear hcz7_1
  try clear hfz11_0
  try clear hfz11_1
  try clear hfz16_0
  try clear hfz16_1
  try clear hfz20_0
  try clear hfz20_1
  try clear hfz27_0
  try clear hfz27_1
  try clear hfz31_0
  try clear hfz31_1
  try clear hfz34_0
  try clear hfz34_1
  try clear hfz37_0
  try clear hfz37_1
  try clear hfz7_0
  try clear hfz7_1
  obtain ⟨kq, x38_3, rfl, HA, HJ3, BK228, BK232, BK236, HB⟩ := hcut
  cases kq with
  | zero => exact absurd HA.out (by simp [mapsheetslaw12_awake.j0])
  | succ kj3 =>
   have H := HA.out
   clear HA
   simp only [mapsheetslaw12_awake.j0] at H
   by_cases c38 : x38_3 = true
   ·subst c38
    have H1 : (none) = some r := by rw [if_pos rfl] at H; exact H
    clear H
    have H := H1
    clear H1
    exact absurd H (by simp)
   ·replace c38 := Bool.eq_false_iff.mpr c38
    subst c38
    have H1 : ((sphere_Wrap.f 648001 5).bind fun bt238 => (if (bt238.1 == (-647999) && (bt238.2 == 5)) = true then ((sphere_Valid.f 648000 0).bind fun t240 => (if t240 = true then ((sphere_Valid.f 0 306001).bind fun t241 => (if t241 = true then (none) else ((sphere_Chord.f kj3 0 0 648000 0).bind fun t242 => (if t242 = 2147483648 then ((sphere_Chord.f kj3 0 0 324000 0).bind fun t243 => (some (t243 == 1518500249))) else (none))))) else (none))) else (none))) = some r := by rw [if_neg (show ¬ (false = true) by decide)] at H; exact H
    clear H
    have H := H1
    clear H1
    replace H := Option.bind_eq_some_iff.mp H
    obtain ⟨⟨t238, t239⟩, A390, H⟩ := H
    replace H : (if (t238 == (-647999) && (t239 == 5)) = true then ((sphere_Valid.f 648000 0).bind fun t240 => (if t240 = true then ((sphere_Valid.f 0 306001).bind fun t241 => (if t241 = true then (none) else ((sphere_Chord.f kj3 0 0 648000 0).bind fun t242 => (if t242 = 2147483648 then ((sphere_Chord.f kj3 0 0 324000 0).bind fun t243 => (some (t243 == 1518500249))) else (none))))) else (none))) else (none)) = some r := H
    have A39 := Aside0.mk A390
    clear A390
    by_cases c40 : (t238 == (-647999) && (t239 == 5)) = true
    ·rw [if_pos c40] at H
     have c40b0 : (t238 == (-647999) && (t239 == 5)) = true := c40
     (try (have c40b1 : decide (t238 = (-647999) && (t239 == 5)) = true := by simpa using c40))
     (try (have c40b2 : (t238 == (-647999) && (t239 == 5)) = true := by simpa using c40))
     clear c40
     replace H := Option.bind_eq_some_iff.mp H
     obtain ⟨t240, A410, H⟩ := H
     replace H : (if t240 = true then ((sphere_Valid.f 0 306001).bind fun t241 => (if t241 = true then (none) else ((sphere_Chord.f kj3 0 0 648000 0).bind fun t242 => (if t242 = 2147483648 then ((sphere_Chord.f kj3 0 0 324000 0).bind fun t243 => (some (t243 == 1518500249))) else (none))))) else (none)) = some r := H
     have A41 := Aside0.mk A410
     clear A410
     by_cases c42 : t240 = true
     ·subst c42
      have H1 : ((sphere_Valid.f 0 306001).bind fun t241 => (if t241 = true then (none) else ((sphere_Chord.f kj3 0 0 648000 0).bind fun t242 => (if t242 = 2147483648 then ((sphere_Chord.f kj3 0 0 324000 0).bind fun t243 => (some (t243 == 1518500249))) else (none))))) = some r := by rw [if_pos rfl] at H; exact H
      clear H
      have H := H1
      clear H1
      replace H := Option.bind_eq_some_iff.mp H
      obtain ⟨t241, A430, H⟩ := H
      replace H : (if t241 = true then (none) else ((sphere_Chord.f kj3 0 0 648000 0).bind fun t242 => (if t242 = 2147483648 then ((sphere_Chord.f kj3 0 0 324000 0).bind fun t243 => (some (t243 == 1518500249))) else (none)))) = some r := H
      have A43 := Aside0.mk A430
      clear A430
      by_cases c44 : t241 = true
      ·subst c44
       have H1 : (none) = some r := by rw [if_pos rfl] at H; exact H
       clear H
       have H := H1
       clear H1
       exact absurd H (by simp)
      ·replace c44 := Bool.eq_false_iff.mpr c44
       subst c44
       have H1 : ((sphere_Chord.f kj3 0 0 648000 0).bind fun t242 => (if t242 = 2147483648 then ((sphere_Chord.f kj3 0 0 324000 0).bind fun t243 => (some (t243 == 1518500249))) else (none))) = some r := by rw [if_neg (show ¬ (false = true) by decide)] at H; exact H
       clear H
       have H := H1
       clear H1
       replace H := Option.bind_eq_some_iff.mp H
       obtain ⟨t242, A450, H⟩ := H
       replace H : (if t242 = 2147483648 then ((sphere_Chord.f kj3 0 0 324000 0).bind fun t243 => (some (t243 == 1518500249))) else (none)) = some r := H
       have A45 := Aside0.mk A450
       clear A450
       by_cases c46 : t242 = 2147483648
       ·rw [if_pos c46] at H
        have c46b0 : (t242 == 2147483648) = true := beq_iff_eq.mpr c46
        have c46b1 : (t242 != 2147483648) = false := bne_eq_false_iff_eq.mpr c46
        clear c46
        replace H := Option.bind_eq_some_iff.mp H
        obtain ⟨t243, A470, H⟩ := H
        replace H : (some (t243 == 1518500249)) = some r := H
        have A47 := Aside0.mk A470
        clear A470
        obtain rfl := Option.some.inj H
        go_wp2_with (first | ((with_reducible refine gate_callee (f := 12) rfl ?_); refine goesL_ (some 40) rfl rfl Try.func12 (by kernel_rfl) rfl #[.agg #[.int .i64 648001, .int .i64 5]] rfl (by (try simp only [List.map_toArray, List.map_cons, List.map_nil]); first | done | rfl | (simp only [List.length_drop, List.length_take]; rfl)) ?_; (with_reducible refine (sphere_Wrap.calls 648001 5 t238 t239 _ A39.out).mono ?_); rintro e w48 ⟨rfl, hb⟩; refine ⟨_, rfl, ?_⟩; have n0_ := Aside0.mk (blk_below (g := gb228) (o := .cells #[.int .i64 t225, .int .i64 t226] 23 (0, 0)) BK228.out hb); have n1_ := Aside0.mk (blk_below (g := gb232) (o := .cells #[.int .i64 t229, .int .i64 t230] 23 (0, 0)) BK232.out hb); have n2_ := Aside0.mk (blk_below (g := gb236) (o := .cells #[.int .i64 t233, .int .i64 t234] 23 (0, 0)) BK236.out hb); have n3_ := Aside0.mk (below_step (by with_reducible repeat first | exact HB.out | apply ba | apply bn | apply bd | refine bs ?_ GE228.out | refine bs ?_ GE232.out | refine bs ?_ GE236.out) hb); clear BK228; clear BK232; clear BK236; clear HB; have BK228 := n0_; have BK232 := n1_; have BK236 := n2_; have HB := n3_; clear n0_ n1_ n2_ n3_; (try clear hb); (try clear hb2); (try clear hk); (try clear hi)) | (go_at_call 10; (with_reducible refine (sphere_Valid.calls 648000 0 true _ A41.out).mono ?_); rintro e w49 ⟨rfl, hb⟩; have n0_ := Aside0.mk (blk_below (g := gb228) (o := .cells #[.int .i64 t225, .int .i64 t226] 23 (0, 0)) BK228.out hb); have n1_ := Aside0.mk (blk_below (g := gb232) (o := .cells #[.int .i64 t229, .int .i64 t230] 23 (0, 0)) BK232.out hb); have n2_ := Aside0.mk (blk_below (g := gb236) (o := .cells #[.int .i64 t233, .int .i64 t234] 23 (0, 0)) BK236.out hb); have n3_ := Aside0.mk (below_step (by with_reducible repeat first | exact HB.out | apply ba | apply bn | apply bd | refine bs ?_ GE228.out | refine bs ?_ GE232.out | refine bs ?_ GE236.out) hb); clear BK228; clear BK232; clear BK236; clear HB; have BK228 := n0_; have BK232 := n1_; have BK236 := n2_; have HB := n3_; clear n0_ n1_ n2_ n3_; (try clear hb); (try clear hb2); (try clear hk); (try clear hi)) | (go_at_call 10; (with_reducible refine (sphere_Valid.calls 0 306001 false _ A43.out).mono ?_); rintro e w50 ⟨rfl, hb⟩; have n0_ := Aside0.mk (blk_below (g := gb228) (o := .cells #[.int .i64 t225, .int .i64 t226] 23 (0, 0)) BK228.out hb); have n1_ := Aside0.mk (blk_below (g := gb232) (o := .cells #[.int .i64 t229, .int .i64 t230] 23 (0, 0)) BK232.out hb); have n2_ := Aside0.mk (blk_below (g := gb236) (o := .cells #[.int .i64 t233, .int .i64 t234] 23 (0, 0)) BK236.out hb); have n3_ := Aside0.mk (below_step (by with_reducible repeat first | exact HB.out | apply ba | apply bn | apply bd | refine bs ?_ GE228.out | refine bs ?_ GE232.out | refine bs ?_ GE236.out) hb); clear BK228; clear BK232; clear BK236; clear HB; have BK228 := n0_; have BK232 := n1_; have BK236 := n2_; have HB := n3_; clear n0_ n1_ n2_ n3_; (try clear hb); (try clear hb2); (try clear hk); (try clear hi)) | (go_at_call 19; (with_reducible refine (sphere_Chord.calls kj3 0 0 648000 0 t242 _ A45.out).mono ?_); rintro e w51 ⟨rfl, hb⟩; have n0_ := Aside0.mk (blk_below (g := gb228) (o := .cells #[.int .i64 t225, .int .i64 t226] 23 (0, 0)) BK228.out hb); have n1_ := Aside0.mk (blk_below (g := gb232) (o := .cells #[.int .i64 t229, .int .i64 t230] 23 (0, 0)) BK232.out hb); have n2_ := Aside0.mk (blk_below (g := gb236) (o := .cells #[.int .i64 t233, .int .i64 t234] 23 (0, 0)) BK236.out hb); have n3_ := Aside0.mk (below_step (by with_reducible repeat first | exact HB.out | apply ba | apply bn | apply bd | refine bs ?_ GE228.out | refine bs ?_ GE232.out | refine bs ?_ GE236.out) hb); clear BK228; clear BK232; clear BK236; clear HB; have BK228 := n0_; have BK232 := n1_; have BK236 := n2_; have HB := n3_; clear n0_ n1_ n2_ n3_; (try clear hb); (try clear hb2); (try clear hk); (try clear hi)) | (go_at_call 19; (with_reducible refine (sphere_Chord.calls kj3 0 0 324000 0 t243 _ A47.out).mono ?_); rintro e w52 ⟨rfl, hb⟩; have n0_ := Aside0.mk (blk_below (g := gb228) (o := .cells #[.int .i64 t225, .int .i64 t226] 23 (0, 0)) BK228.out hb); have n1_ := Aside0.mk (blk_below (g := gb232) (o := .cells #[.int .i64 t229, .int .i64 t230] 23 (0, 0)) BK232.out hb); have n2_ := Aside0.mk (blk_below (g := gb236) (o := .cells #[.int .i64 t233, .int .i64 t234] 23 (0, 0)) BK236.out hb); have n3_ := Aside0.mk (below_step (by with_reducible repeat first | exact HB.out | apply ba | apply bn | apply bd | refine bs ?_ GE228.out | refine bs ?_ GE232.out | refine bs ?_ GE236.out) hb); clear BK228; clear BK232; clear BK236; clear HB; have BK228 := n0_; have BK232 := n1_; have BK236 := n2_; have HB := n3_; clear n0_ n1_ n2_ n3_; (try clear hb); (try clear hb2); (try clear hk); (try clear hi)))
        go_ret
        exact ⟨by first | rfl | (simp [errW_none, errW_some] <;> rfl) | (simp [*, errW_none, errW_some] <;> rfl), by with_reducible repeat first | exact HB.out | apply ba | apply bn | apply bd | refine bs ?_ GE228.out | refine bs ?_ GE232.out | refine bs ?_ GE236.out⟩
       ·rw [if_neg c46] at H
        exact absurd H (by simp)
     ·replace c42 := Bool.eq_false_iff.mpr c42
      subst c42
      have H1 : (none) = some r := by rw [if_neg (show ¬ (false = true) by decide)] at H; exact H
      clear H
      have H := H1
      clear H1
      exact absurd H (by simp)
    ·rw [if_neg c40] at H
     exact absurd H (by simp)

end Go.Proofs.Yteojklacaecmpaa.P
