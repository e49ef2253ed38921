-- Written by wip/tools/xprint.py (this session's program, over the kit's print.py) for this seat.
import Derived.Test.YteojklacaecmpaaPx0
import Derived.Test.YteojklacaecmpaaPx2
import Derived.Test.YteojklacaecmpaaPx8
namespace Go.Proofs.Yteojklacaecmpaa.P
open Go.RowKit Go.Proofs.YteojklacaecmpaaW.PrintWords Go.Proofs.YteojklacaecmpaaW.PrintLast Go.Proofs.YteojklacaecmpaaW.PrintMore
attribute [local go_sem] max2_int min2_int max_two min_two max_three min_three max_four min_four   -- for this text's walks alone
set_option linter.unusedVariables false
set_option linter.unusedSimpArgs false

/-! ### sphere_Chord: function 19 -/
mutual
def sphere_Chord.j0 : Nat → Bool → Int → Int → Int → Int → Option (Int)
 | 0, _, _, _, _, _ => none
 | k + 1, x16, x213000, x213001, x214000, x214001 => if x16 = true then (some 0) else ((sphere_vector.f k x213000 x213001).bind fun bt216 => ((sphere_vector.f k x214000 x214001).bind fun bt219 => (sphere_Chord.l0 k 0 0 bt216.1 bt216.2.1 bt216.2.2 bt219.1 bt219.2.1 bt219.2.2)))
def sphere_Chord.l0 : Nat → Int → Int → Int → Int → Int → Int → Int → Int → Option (Int)
 | 0, _, _, _, _, _, _, _, _ => none
 | k + 1, x7, x21, x223000, x223001, x223002, x224000, x224001, x224002 => if x21 < 3 then (if 0 ≤ x21 then (if x21 = 0 then (sphere_Chord.l0 k (wrap64 (x7 + (wrap64 ((wrap64 (x223000 - x224000)) * (wrap64 (x223000 - x224000)))))) (wrap64 (x21 + 1)) x223000 x223001 x223002 x224000 x224001 x224002) else (if x21 = 1 then (sphere_Chord.l0 k (wrap64 (x7 + (wrap64 ((wrap64 (x223001 - x224001)) * (wrap64 (x223001 - x224001)))))) (wrap64 (x21 + 1)) x223000 x223001 x223002 x224000 x224001 x224002) else (sphere_Chord.l0 k (wrap64 (x7 + (wrap64 ((wrap64 (x223002 - x224002)) * (wrap64 (x223002 - x224002)))))) (wrap64 (x21 + 1)) x223000 x223001 x223002 x224000 x224001 x224002))) else (none)) else ((num_Sqrt.f k x7).bind fun t224 => (some t224))
end
def sphere_Chord.f (k : Nat) (a0_0 : Int) (a0_1 : Int) (a1_0 : Int) (a1_1 : Int) : Option (Int) := (sphere_Valid.f a0_0 a0_1).bind fun t214 => (if t214 = true then ((sphere_Valid.f a1_0 a1_1).bind fun t215 => (sphere_Chord.j0 k (!t215) a0_0 a0_1 a1_0 a1_1)) else (sphere_Chord.j0 k true a0_0 a0_1 a1_0 a1_1))
theorem sphere_Chord.mono_l : ∀ k, (∀ y0 y1 y2 y3 y4, LeO (sphere_Chord.j0 k y0 y1 y2 y3 y4) (sphere_Chord.j0 (k + 1) y0 y1 y2 y3 y4)) ∧ (∀ y0 y1 y2 y3 y4 y5 y6 y7, LeO (sphere_Chord.l0 k y0 y1 y2 y3 y4 y5 y6 y7) (sphere_Chord.l0 (k + 1) y0 y1 y2 y3 y4 y5 y6 y7))
 | 0 => ⟨fun _ _ _ _ _ r h => by simp [sphere_Chord.j0] at h, fun _ _ _ _ _ _ _ _ r h => by simp [sphere_Chord.l0] at h⟩
 | k + 1 => by
  obtain ⟨ih0, ih1⟩ := sphere_Chord.mono_l k
  refine ⟨?_, ?_⟩
  ·intro y0 y1 y2 y3 y4
   unfold sphere_Chord.j0
   repeat' first
   | (with_reducible exact ih0 _ _ _ _ _)
   | (with_reducible exact ih1 _ _ _ _ _ _ _ _)
   | (with_reducible exact num_Sqrt.mono _ _)
   | (with_reducible exact sphere_vector.mono _ _ _)
   | (with_reducible exact LeO.refl _)
   | (with_reducible exact LeO.none _)
   | (with_reducible refine LeO.ite ?_ ?_)
   | (with_reducible refine LeO.bind ?_ (fun _ => ?_))
   | exact ih0 _ _ _ _ _
   | exact ih1 _ _ _ _ _ _ _ _
   | exact num_Sqrt.mono _ _
   | exact sphere_vector.mono _ _ _
   | exact LeO.none _
   | refine LeO.ite ?_ ?_
   | refine LeO.bind ?_ (fun _ => ?_)
  ·intro y0 y1 y2 y3 y4 y5 y6 y7
   unfold sphere_Chord.l0
   repeat' first
   | (with_reducible exact ih0 _ _ _ _ _)
   | (with_reducible exact ih1 _ _ _ _ _ _ _ _)
   | (with_reducible exact num_Sqrt.mono _ _)
   | (with_reducible exact sphere_vector.mono _ _ _)
   | (with_reducible exact LeO.refl _)
   | (with_reducible exact LeO.none _)
   | (with_reducible refine LeO.ite ?_ ?_)
   | (with_reducible refine LeO.bind ?_ (fun _ => ?_))
   | exact ih0 _ _ _ _ _
   | exact ih1 _ _ _ _ _ _ _ _
   | exact num_Sqrt.mono _ _
   | exact sphere_vector.mono _ _ _
   | exact LeO.none _
   | refine LeO.ite ?_ ?_
   | refine LeO.bind ?_ (fun _ => ?_)
theorem sphere_Chord.mono : ∀ a0 a1 a2 a3 k, LeO (sphere_Chord.f k a0 a1 a2 a3) (sphere_Chord.f (k + 1) a0 a1 a2 a3) := by
 intro a0 a1 a2 a3 k
 obtain ⟨ih0, ih1⟩ := sphere_Chord.mono_l k
 unfold sphere_Chord.f
 repeat' first
   | (with_reducible exact ih0 _ _ _ _ _)
   | (with_reducible exact ih1 _ _ _ _ _ _ _ _)
   | (with_reducible exact num_Sqrt.mono _ _)
   | (with_reducible exact sphere_vector.mono _ _ _)
   | (with_reducible exact LeO.refl _)
   | (with_reducible exact LeO.none _)
   | (with_reducible refine LeO.ite ?_ ?_)
   | (with_reducible refine LeO.bind ?_ (fun _ => ?_))
   | exact ih0 _ _ _ _ _
   | exact ih1 _ _ _ _ _ _ _ _
   | exact num_Sqrt.mono _ _
   | exact sphere_vector.mono _ _ _
   | exact LeO.none _
   | refine LeO.ite ?_ ?_
   | refine LeO.bind ?_ (fun _ => ?_)
def sphere_Chord.T3 : Bool × List (List Nat × List Nat) := (true, [([], []), ([0], [0]), ([], []), ([2, 1], [2]), ([], []), ([], []), ([4, 1, 3, 0, 1, 4, 5], [1, 4]), ([5, 3, 6, 0, 1, 2, 3, 4, 5, 6], [3, 5])])
def sphere_Chord.B3 : List Nat := [0, 1, 0, 7, 0, 0, 63, 127]
theorem sphere_Chord.tab3 : rtab .any (opsOf Try.f19 3) = sphere_Chord.T3 := by kernel_rfl
theorem sphere_Chord.bits3 : waitsOk sphere_Chord.T3.2 sphere_Chord.B3 = true := by kernel_rfl
def sphere_Chord.T8 : Bool × List (List Nat × List Nat) := (true, [([], []), ([], []), ([1], [1]), ([2], [2]), ([], []), ([4], [4]), ([5], [5]), ([3, 6], [3, 6]), ([], []), ([8], [8]), ([9], [9]), ([], []), ([11], [11]), ([12], [12]), ([10, 13], [10, 13]), ([7, 14], [7, 14]), ([0, 15], [0, 15]), ([16, 0, 1, 2, 3, 4, 5, 6, 7, 8, 9, 10, 11, 12, 13, 14, 15, 16], [0, 16])])
def sphere_Chord.B8 : List Nat := [0, 0, 2, 6, 0, 16, 48, 126, 0, 256, 768, 0, 2048, 6144, 16128, 32766, 65535, 131071]
theorem sphere_Chord.tab8 : rtab .any (opsOf Try.f19 8) = sphere_Chord.T8 := by kernel_rfl
theorem sphere_Chord.bits8 : waitsOk sphere_Chord.T8.2 sphere_Chord.B8 = true := by kernel_rfl
set_option maxHeartbeats 8000000 in
set_option maxRecDepth 100000 in
theorem sphere_Chord.calls (k : Nat) (a0_0 : Int) (a0_1 : Int) (a1_0 : Int) (a1_1 : Int) (r : Int) (w : World) (h : sphere_Chord.f k a0_0 a0_1 a1_0 a1_1 = some r) :
  Calls Try.prog 19 #[.agg #[.int .i64 a0_0, .int .i64 a0_1], .agg #[.int .i64 a1_0, .int .i64 a1_1]] w fun e w' => e = .returned (.int .i64 r) ∧ Below w.heap.size w w' := by
 have hu23 := Try.underlying23
 have hu48 := Try.underlying48
 have HB := Aside0.mk (Below.refl w.heap.size w)
 have H : ((sphere_Valid.f a0_0 a0_1).bind fun t214 => (if t214 = true then ((sphere_Valid.f a1_0 a1_1).bind fun t215 => (sphere_Chord.j0 k (!t215) a0_0 a0_1 a1_0 a1_1)) else (sphere_Chord.j0 k true a0_0 a0_1 a1_0 a1_1))) = some r := h
 clear h
 have HC3 := Aside0.mk H
 clear H
 go_enter Try.func19, Try.ntmps19
 go_upto_region 1 with (first | ((with_reducible refine gate_dst (N := 2) rfl ?_); refine box_event ?hg (N := 2) ?hd (cs := #[.int .i64 a0_0, .int .i64 a0_1]) (t := 23) ?hr ?_; (case hd => rfl); (case hg => rfl); (case hr => first | (go_simp; done) | (go_simp; rfl)); intro gb212 hg w4 hbox hb; have n0_ := Aside0.mk (below_step (by with_reducible repeat first | exact HB.out | apply ba | apply bn | apply bd) hb); have n1_ := Aside0.mk (hbox); have n2_ := Aside0.mk ((by rw [hg]; exact (below_size (by with_reducible repeat first | exact HB.out | apply ba | apply bn | apply bd)) : w.heap.size ≤ gb212)); have n3_ := Aside0.mk ((by rw [hg]; exact (below_size (by with_reducible repeat first | exact HB.out | apply ba | apply bn | apply bd)) : w.heap.size ≤ gb212)); clear HB; have HB := n0_; have BK212 := n1_; have GW212 := n2_; have GE212 := n3_; clear n0_ n1_ n2_ n3_; clear hb hbox hg) | ((with_reducible refine gate_dst (N := 3) rfl ?_); refine box_event ?hg (N := 3) ?hd (cs := #[.int .i64 a1_0, .int .i64 a1_1]) (t := 23) ?hr ?_; (case hd => rfl); (case hg => rfl); (case hr => first | (go_simp; done) | (go_simp; rfl)); intro gb213 hg w5 hbox hb; have n0_ := Aside0.mk (blk_below (g := gb212) (o := .cells #[.int .i64 a0_0, .int .i64 a0_1] 23 (0, 0)) BK212.out hb); have n1_ := Aside0.mk (below_step (by with_reducible repeat first | exact HB.out | apply ba | apply bn | apply bd | refine bs ?_ GE212.out) hb); have n2_ := Aside0.mk (hbox); have n3_ := Aside0.mk ((by rw [hg]; exact (below_size (by with_reducible repeat first | exact HB.out | apply ba | apply bn | apply bd | refine bs ?_ GE212.out)) : w.heap.size ≤ gb213)); have n4_ := Aside0.mk ((by rw [hg]; exact (below_size (by with_reducible repeat first | exact HB.out | apply ba | apply bn | apply bd | refine bs ?_ GE212.out)) : w.heap.size ≤ gb213)); have n5_ := Aside0.mk ((by rw [hg]; exact Nat.ne_of_lt (blk_lt (g := gb212) (o := .cells #[.int .i64 a0_0, .int .i64 a0_1] 23 (0, 0)) BK212.out) : gb212 ≠ gb213)); have n6_ := Aside0.mk ((by rw [hg]; exact Nat.ne_of_gt (blk_lt (g := gb212) (o := .cells #[.int .i64 a0_0, .int .i64 a0_1] 23 (0, 0)) BK212.out) : gb213 ≠ gb212)); clear BK212; clear HB; have BK212 := n0_; have HB := n1_; have BK213 := n2_; have GW213 := n3_; have GE213 := n4_; have NB212_213 := n5_; have NB213_212 := n6_; clear n0_ n1_ n2_ n3_ n4_ n5_ n6_; clear hb hbox hg))
 (try simp only [Act.put, s1, s2, s3])
 go_cut [16] (fun v16 wc => ∃ (kq : Nat) (x16_2 : Bool), v16 = .bool x16_2 ∧ Aside0 (sphere_Chord.j0 kq x16_2 a0_0 a0_1 a1_0 a1_1 = some r) ∧ Aside0 (kq ≤ k) ∧ Aside0 (wc.heap[gb212]? = some (.cells #[.int .i64 a0_0, .int .i64 a0_1] 23 (0, 0))) ∧ Aside0 (wc.heap[gb213]? = some (.cells #[.int .i64 a1_0, .int .i64 a1_1] 23 (0, 0))) ∧ Aside0 (Below w.heap.size w wc))
 case first =>
  have H := HC3.out
  clear HC3
  replace H := Option.bind_eq_some_iff.mp H
  obtain ⟨t214, A60, H⟩ := H
  replace H : (if t214 = true then ((sphere_Valid.f a1_0 a1_1).bind fun t215 => (sphere_Chord.j0 k (!t215) a0_0 a0_1 a1_0 a1_1)) else (sphere_Chord.j0 k true a0_0 a0_1 a1_0 a1_1)) = some r := H
  have A6 := Aside0.mk A60
  clear A60
  by_cases c7 : t214 = true
  ·subst c7
   have H1 : ((sphere_Valid.f a1_0 a1_1).bind fun t215 => (sphere_Chord.j0 k (!t215) a0_0 a0_1 a1_0 a1_1)) = some r := by rw [if_pos rfl] at H; exact H
   clear H
   have H := H1
   clear H1
   replace H := Option.bind_eq_some_iff.mp H
   obtain ⟨t215, A80, H⟩ := H
   replace H : (sphere_Chord.j0 k (!t215) a0_0 a0_1 a1_0 a1_1) = some r := H
   have A8 := Aside0.mk A80
   clear A80
   have H' := Aside0.mk H
   clear H
   have hnb9 := NB212_213.out
   have hnc9 := NB213_212.out
   have hcz10_0 : w5.cell? ⟨gb212, 0, none⟩ = some (.int .i64 a0_0) := (blk_cell BK212.out 0).trans rfl
   have hcz10_1 : w5.cell? ⟨gb212, 1, none⟩ = some (.int .i64 a0_1) := (blk_cell BK212.out 1).trans rfl
   have hfz10_0 := blk_frozen BK212.out 0
   have hfz10_1 := blk_frozen BK212.out 1
   go_wp2_with (first | ((with_reducible refine gate_callee (f := 10) rfl ?_); refine goesL_ (some 10) rfl rfl Try.func10 (by kernel_rfl) rfl #[.agg #[.int .i64 a0_0, .int .i64 a0_1]] rfl (by (try simp only [List.map_toArray, List.map_cons, List.map_nil]); first | done | rfl | (simp only [List.length_drop, List.length_take]; rfl)) ?_; (with_reducible refine (sphere_Valid.calls a0_0 a0_1 true _ A6.out).mono ?_); rintro e w11 ⟨rfl, hb⟩; refine ⟨_, rfl, ?_⟩; have n0_ := Aside0.mk (blk_below (g := gb212) (o := .cells #[.int .i64 a0_0, .int .i64 a0_1] 23 (0, 0)) BK212.out hb); have n1_ := Aside0.mk (blk_below (g := gb213) (o := .cells #[.int .i64 a1_0, .int .i64 a1_1] 23 (0, 0)) BK213.out hb); have n2_ := Aside0.mk (below_step (by with_reducible repeat first | exact HB.out | apply ba | apply bn | apply bd | refine bs ?_ GE212.out | refine bs ?_ GE213.out) hb); clear BK212; clear BK213; clear HB; have BK212 := n0_; have BK213 := n1_; have HB := n2_; clear n0_ n1_ n2_; (try clear hb); (try clear hb2); (try clear hk); (try clear hi); have hcz12_0 : w11.cell? ⟨gb213, 0, none⟩ = some (.int .i64 a1_0) := (blk_cell BK213.out 0).trans rfl; have hcz12_1 : w11.cell? ⟨gb213, 1, none⟩ = some (.int .i64 a1_1) := (blk_cell BK213.out 1).trans rfl; have hfz12_0 := blk_frozen BK213.out 0; have hfz12_1 := blk_frozen BK213.out 1) | (go_at_call 10; (with_reducible refine (sphere_Valid.calls a1_0 a1_1 t215 _ A8.out).mono ?_); rintro e w13 ⟨rfl, hb⟩; have n0_ := Aside0.mk (blk_below (g := gb212) (o := .cells #[.int .i64 a0_0, .int .i64 a0_1] 23 (0, 0)) BK212.out hb); have n1_ := Aside0.mk (blk_below (g := gb213) (o := .cells #[.int .i64 a1_0, .int .i64 a1_1] 23 (0, 0)) BK213.out hb); have n2_ := Aside0.mk (below_step (by with_reducible repeat first | exact HB.out | apply ba | apply bn | apply bd | refine bs ?_ GE212.out | refine bs ?_ GE213.out) hb); clear BK212; clear BK213; clear HB; have BK212 := n0_; have BK213 := n1_; have HB := n2_; clear n0_ n1_ n2_; (try clear hb); (try clear hb2); (try clear hk); (try clear hi)))
   go_meet
   case rel => exact ⟨_, (!t215), (by first | rfl | (simp; done) | (simp [*]; done) | (simp [*]; unfold wrap64; omega)), H', ⟨by first | omega | exact Nat.le_refl _⟩, BK212, BK213, ⟨by with_reducible repeat first | exact HB.out | apply ba | apply bn | apply bd | refine bs ?_ GE212.out | refine bs ?_ GE213.out⟩⟩
  ·replace c7 := Bool.eq_false_iff.mpr c7
   subst c7
   have H1 : (sphere_Chord.j0 k true a0_0 a0_1 a1_0 a1_1) = some r := by rw [if_neg (show ¬ (false = true) by decide)] at H; exact H
   clear H
   have H := H1
   clear H1
   have H' := Aside0.mk H
   clear H
   have hnb14 := NB212_213.out
   have hnc14 := NB213_212.out
   have hcz15_0 : w5.cell? ⟨gb212, 0, none⟩ = some (.int .i64 a0_0) := (blk_cell BK212.out 0).trans rfl
   have hcz15_1 : w5.cell? ⟨gb212, 1, none⟩ = some (.int .i64 a0_1) := (blk_cell BK212.out 1).trans rfl
   have hfz15_0 := blk_frozen BK212.out 0
   have hfz15_1 := blk_frozen BK212.out 1
   go_wp2_with (first | ((with_reducible refine gate_callee (f := 10) rfl ?_); refine goesL_ (some 10) rfl rfl Try.func10 (by kernel_rfl) rfl #[.agg #[.int .i64 a0_0, .int .i64 a0_1]] rfl (by (try simp only [List.map_toArray, List.map_cons, List.map_nil]); first | done | rfl | (simp only [List.length_drop, List.length_take]; rfl)) ?_; (with_reducible refine (sphere_Valid.calls a0_0 a0_1 false _ A6.out).mono ?_); rintro e w16 ⟨rfl, hb⟩; refine ⟨_, rfl, ?_⟩; have n0_ := Aside0.mk (blk_below (g := gb212) (o := .cells #[.int .i64 a0_0, .int .i64 a0_1] 23 (0, 0)) BK212.out hb); have n1_ := Aside0.mk (blk_below (g := gb213) (o := .cells #[.int .i64 a1_0, .int .i64 a1_1] 23 (0, 0)) BK213.out hb); have n2_ := Aside0.mk (below_step (by with_reducible repeat first | exact HB.out | apply ba | apply bn | apply bd | refine bs ?_ GE212.out | refine bs ?_ GE213.out) hb); clear BK212; clear BK213; clear HB; have BK212 := n0_; have BK213 := n1_; have HB := n2_; clear n0_ n1_ n2_; (try clear hb); (try clear hb2); (try clear hk); (try clear hi)))
   go_meet
   case rel => exact ⟨_, (true), (by first | rfl | (simp; done) | (simp [*]; done) | (simp [*]; unfold wrap64; omega)), H', ⟨by first | omega | exact Nat.le_refl _⟩, BK212, BK213, ⟨by with_reducible repeat first | exact HB.out | apply ba | apply bn | apply bd | refine bs ?_ GE212.out | refine bs ?_ GE213.out⟩⟩
 case rest =>
  clear HC3
  try clear c1
  try clear p2
  try clear c7
  try clear c9
  try clear c10
  try clear c14
  try clear hcz10_0
  try clear hcz10_1
  try clear hcz12_0
  try clear hcz12_1
  try clear hcz15_0
  try clear hcz15_1
  try clear hfz10_0
  try clear hfz10_1
  try clear hfz12_0
  try clear hfz12_1
  try clear hfz15_0
  try clear hfz15_1
  obtain ⟨kq, x16_2, rfl, HA, HJ2, BK212, BK213, HB⟩ := hcut
  cases kq with
  | zero => exact absurd HA.out (by simp [sphere_Chord.j0])
  | succ kj2 =>
   have H := HA.out
   clear HA
   simp only [sphere_Chord.j0] at H
   by_cases c17 : x16_2 = true
   ·subst c17
    have H1 : (some 0) = some r := by rw [if_pos rfl] at H; exact H
    clear H
    have H := H1
    clear H1
    obtain rfl := Option.some.inj H
    go_wp2
    go_ret
    exact ⟨by first | rfl | (simp [errW_none, errW_some] <;> rfl) | (simp [*, errW_none, errW_some] <;> rfl), by with_reducible repeat first | exact HB.out | apply ba | apply bn | apply bd | refine bs ?_ GE212.out | refine bs ?_ GE213.out⟩
   ·replace c17 := Bool.eq_false_iff.mpr c17
    subst c17
    have H1 : ((sphere_vector.f kj2 a0_0 a0_1).bind fun bt216 => ((sphere_vector.f kj2 a1_0 a1_1).bind fun bt219 => (sphere_Chord.l0 kj2 0 0 bt216.1 bt216.2.1 bt216.2.2 bt219.1 bt219.2.1 bt219.2.2))) = some r := by rw [if_neg (show ¬ (false = true) by decide)] at H; exact H
    clear H
    have H := H1
    clear H1
    replace H := Option.bind_eq_some_iff.mp H
    obtain ⟨⟨t216, t217, t218⟩, A180, H⟩ := H
    replace H : ((sphere_vector.f kj2 a1_0 a1_1).bind fun bt219 => (sphere_Chord.l0 kj2 0 0 t216 t217 t218 bt219.1 bt219.2.1 bt219.2.2)) = some r := H
    have A18 := Aside0.mk A180
    clear A180
    replace H := Option.bind_eq_some_iff.mp H
    obtain ⟨⟨t219, t220, t221⟩, A190, H⟩ := H
    replace H : (sphere_Chord.l0 kj2 0 0 t216 t217 t218 t219 t220 t221) = some r := H
    have A19 := Aside0.mk A190
    clear A190
    have H' := Aside0.mk H
    clear H
    try go_wp2
    have n0_ := Aside0.mk (blk_drew BK212.out)
    have n1_ := Aside0.mk (blk_drew BK213.out)
    have n2_ := Aside0.mk (below_drew1 HB.out)
    clear BK212
    clear BK213
    clear HB
    have BK212 := n0_
    have BK213 := n1_
    have HB := n2_
    clear n0_ n1_ n2_
    refine start_ (n := 8) (S := fun w' => w'.cell? ⟨gb212, 0, none⟩ = some (.int .i64 a0_0) ∧ w'.cell? ⟨gb212, 1, none⟩ = some (.int .i64 a0_1) ∧ w'.cell? ⟨gb213, 0, none⟩ = some (.int .i64 a1_0) ∧ w'.cell? ⟨gb213, 1, none⟩ = some (.int .i64 a1_1)) (ds := []) #[false, false, false, false, false, false, false, false] (by kernel_rfl) rfl rfl ⟨(blk_cell BK212.out 0).trans rfl, (blk_cell BK212.out 1).trans rfl, (blk_cell BK213.out 0).trans rfl, (blk_cell BK213.out 1).trans rfl⟩ (fun hHeld => ?_); refine with_tabW sphere_Chord.tab3 sphere_Chord.bits3 (fun HT_ HW_ => ?_)
    generalize wc.drew = w20 at BK212 BK213 HB hHeld ⊢
    refine take_ (i := 0) (N := some 17) (v := ?_) (a' := ?_) #[true, false, false, false, false, false, false, false] rfl rfl (take_ofW HT_.out HW_.out (by kernel_rfl)) (fun _ _ _ h => h) (Or.inl ⟨by rfl, ?_⟩) hHeld ?_ ?_
    rotate_left
    ·rintro w' ⟨s0, s1, s2, s3⟩
     go_simp
     with_reducible rfl
    rotate_left
    ·simp only [Act.put, s1, s2, s3, i64_w, i32_w]
     rfl
    refine take_ (i := 2) (N := some 19) (v := ?_) (a' := ?_) #[true, false, true, false, false, false, false, false] rfl rfl (take_ofW HT_.out HW_.out (by kernel_rfl)) (fun _ _ _ h => h) (Or.inl ⟨by rfl, ?_⟩) hHeld ?_ ?_
    rotate_left
    ·rintro w' ⟨s0, s1, s2, s3⟩
     go_simp
     with_reducible rfl
    rotate_left
    ·simp only [Act.put, s1, s2, s3, i64_w, i32_w]
     rfl
    refine join_ (σ := Nat × Nat) 2 #[true, true, true, true, true, true, false, false] (fun s_ => [(18, .agg #[.int .i64 t216, .int .i64 t217, .int .i64 t218]), (20, .agg #[.int .i64 t219, .int .i64 t220, .int .i64 t221]), (5, .pointer (some ⟨s_.1, 0, none⟩)), (6, .pointer (some ⟨s_.2, 0, none⟩))]) (fun s_ w' => (w'.cell? ⟨gb212, 0, none⟩ = some (.int .i64 a0_0) ∧ w'.cell? ⟨gb212, 1, none⟩ = some (.int .i64 a0_1) ∧ w'.cell? ⟨gb213, 0, none⟩ = some (.int .i64 a1_0) ∧ w'.cell? ⟨gb213, 1, none⟩ = some (.int .i64 a1_1)) ∧ (w'.heap[gb212]? = some (.cells #[.int .i64 a0_0, .int .i64 a0_1] 23 (0, 0))) ∧ (w'.heap[gb213]? = some (.cells #[.int .i64 a1_0, .int .i64 a1_1] 23 (0, 0))) ∧ (w'.heap[s_.1]? = some (.cells #[.int .i64 0, .int .i64 0, .int .i64 0] 48 (0, 0))) ∧ (w'.heap[s_.2]? = some (.cells #[.int .i64 0, .int .i64 0, .int .i64 0] 48 (0, 0))) ∧ (w.heap.size ≤ s_.1) ∧ (w.heap.size ≤ s_.1) ∧ (gb212 ≠ s_.1) ∧ (s_.1 ≠ gb212) ∧ (gb213 ≠ s_.1) ∧ (s_.1 ≠ gb213) ∧ (s_.2 ≠ s_.1) ∧ (s_.1 ≠ s_.2) ∧ (w.heap.size ≤ s_.2) ∧ (w.heap.size ≤ s_.2) ∧ (gb212 ≠ s_.2) ∧ (s_.2 ≠ gb212) ∧ (gb213 ≠ s_.2) ∧ (s_.2 ≠ gb213) ∧ (Below w.heap.size w w')) ?_ ?_
    rotate_left
    ·intro hJ1_3_4_5
     refine join_ (σ := Nat) 3 #[true, true, true, true, true, false, false, false] (fun s_ => [(18, .agg #[.int .i64 t216, .int .i64 t217, .int .i64 t218]), (20, .agg #[.int .i64 t219, .int .i64 t220, .int .i64 t221]), (5, .pointer (some ⟨s_, 0, none⟩))]) (fun s_ w' => (w'.cell? ⟨gb212, 0, none⟩ = some (.int .i64 a0_0) ∧ w'.cell? ⟨gb212, 1, none⟩ = some (.int .i64 a0_1) ∧ w'.cell? ⟨gb213, 0, none⟩ = some (.int .i64 a1_0) ∧ w'.cell? ⟨gb213, 1, none⟩ = some (.int .i64 a1_1)) ∧ (w'.heap[gb212]? = some (.cells #[.int .i64 a0_0, .int .i64 a0_1] 23 (0, 0))) ∧ (w'.heap[gb213]? = some (.cells #[.int .i64 a1_0, .int .i64 a1_1] 23 (0, 0))) ∧ (w'.heap[s_]? = some (.cells #[.int .i64 0, .int .i64 0, .int .i64 0] 48 (0, 0))) ∧ (w.heap.size ≤ s_) ∧ (w.heap.size ≤ s_) ∧ (gb212 ≠ s_) ∧ (s_ ≠ gb212) ∧ (gb213 ≠ s_) ∧ (s_ ≠ gb213) ∧ (Below w.heap.size w w')) ?_ ?_
     rotate_left
     ·intro hJ1_3_4
      refine join_ (σ := Nat) 3 #[true, true, true, true, false, true, false, false] (fun s_ => [(18, .agg #[.int .i64 t216, .int .i64 t217, .int .i64 t218]), (20, .agg #[.int .i64 t219, .int .i64 t220, .int .i64 t221]), (6, .pointer (some ⟨s_, 0, none⟩))]) (fun s_ w' => (w'.cell? ⟨gb212, 0, none⟩ = some (.int .i64 a0_0) ∧ w'.cell? ⟨gb212, 1, none⟩ = some (.int .i64 a0_1) ∧ w'.cell? ⟨gb213, 0, none⟩ = some (.int .i64 a1_0) ∧ w'.cell? ⟨gb213, 1, none⟩ = some (.int .i64 a1_1)) ∧ (w'.heap[gb212]? = some (.cells #[.int .i64 a0_0, .int .i64 a0_1] 23 (0, 0))) ∧ (w'.heap[gb213]? = some (.cells #[.int .i64 a1_0, .int .i64 a1_1] 23 (0, 0))) ∧ (w'.heap[s_]? = some (.cells #[.int .i64 0, .int .i64 0, .int .i64 0] 48 (0, 0))) ∧ (w.heap.size ≤ s_) ∧ (w.heap.size ≤ s_) ∧ (gb212 ≠ s_) ∧ (s_ ≠ gb212) ∧ (gb213 ≠ s_) ∧ (s_ ≠ gb213) ∧ (Below w.heap.size w w')) ?_ ?_
      rotate_left
      ·intro hJ1_3_5
       refine join_ (σ := Nat × Nat) 3 #[true, true, true, false, true, true, false, false] (fun s_ => [(18, .agg #[.int .i64 t216, .int .i64 t217, .int .i64 t218]), (5, .pointer (some ⟨s_.1, 0, none⟩)), (6, .pointer (some ⟨s_.2, 0, none⟩))]) (fun s_ w' => (w'.cell? ⟨gb212, 0, none⟩ = some (.int .i64 a0_0) ∧ w'.cell? ⟨gb212, 1, none⟩ = some (.int .i64 a0_1) ∧ w'.cell? ⟨gb213, 0, none⟩ = some (.int .i64 a1_0) ∧ w'.cell? ⟨gb213, 1, none⟩ = some (.int .i64 a1_1)) ∧ (w'.heap[gb212]? = some (.cells #[.int .i64 a0_0, .int .i64 a0_1] 23 (0, 0))) ∧ (w'.heap[gb213]? = some (.cells #[.int .i64 a1_0, .int .i64 a1_1] 23 (0, 0))) ∧ (w'.heap[s_.1]? = some (.cells #[.int .i64 0, .int .i64 0, .int .i64 0] 48 (0, 0))) ∧ (w'.heap[s_.2]? = some (.cells #[.int .i64 0, .int .i64 0, .int .i64 0] 48 (0, 0))) ∧ (w.heap.size ≤ s_.1) ∧ (w.heap.size ≤ s_.1) ∧ (gb212 ≠ s_.1) ∧ (s_.1 ≠ gb212) ∧ (gb213 ≠ s_.1) ∧ (s_.1 ≠ gb213) ∧ (s_.2 ≠ s_.1) ∧ (s_.1 ≠ s_.2) ∧ (w.heap.size ≤ s_.2) ∧ (w.heap.size ≤ s_.2) ∧ (gb212 ≠ s_.2) ∧ (s_.2 ≠ gb212) ∧ (gb213 ≠ s_.2) ∧ (s_.2 ≠ gb213) ∧ (Below w.heap.size w w')) ?_ ?_
       rotate_left
       ·intro hJ1_4_5
        refine join_ (σ := Unit) 4 #[true, true, true, true, false, false, false, false] (fun s_ => [(18, .agg #[.int .i64 t216, .int .i64 t217, .int .i64 t218]), (20, .agg #[.int .i64 t219, .int .i64 t220, .int .i64 t221])]) (fun s_ w' => (w'.cell? ⟨gb212, 0, none⟩ = some (.int .i64 a0_0) ∧ w'.cell? ⟨gb212, 1, none⟩ = some (.int .i64 a0_1) ∧ w'.cell? ⟨gb213, 0, none⟩ = some (.int .i64 a1_0) ∧ w'.cell? ⟨gb213, 1, none⟩ = some (.int .i64 a1_1)) ∧ (w'.heap[gb212]? = some (.cells #[.int .i64 a0_0, .int .i64 a0_1] 23 (0, 0))) ∧ (w'.heap[gb213]? = some (.cells #[.int .i64 a1_0, .int .i64 a1_1] 23 (0, 0))) ∧ (Below w.heap.size w w')) ?_ ?_
        rotate_left
        ·intro hJ1_3
         refine join_ (σ := Nat) 4 #[true, true, true, false, true, false, false, false] (fun s_ => [(18, .agg #[.int .i64 t216, .int .i64 t217, .int .i64 t218]), (5, .pointer (some ⟨s_, 0, none⟩))]) (fun s_ w' => (w'.cell? ⟨gb212, 0, none⟩ = some (.int .i64 a0_0) ∧ w'.cell? ⟨gb212, 1, none⟩ = some (.int .i64 a0_1) ∧ w'.cell? ⟨gb213, 0, none⟩ = some (.int .i64 a1_0) ∧ w'.cell? ⟨gb213, 1, none⟩ = some (.int .i64 a1_1)) ∧ (w'.heap[gb212]? = some (.cells #[.int .i64 a0_0, .int .i64 a0_1] 23 (0, 0))) ∧ (w'.heap[gb213]? = some (.cells #[.int .i64 a1_0, .int .i64 a1_1] 23 (0, 0))) ∧ (w'.heap[s_]? = some (.cells #[.int .i64 0, .int .i64 0, .int .i64 0] 48 (0, 0))) ∧ (w.heap.size ≤ s_) ∧ (w.heap.size ≤ s_) ∧ (gb212 ≠ s_) ∧ (s_ ≠ gb212) ∧ (gb213 ≠ s_) ∧ (s_ ≠ gb213) ∧ (Below w.heap.size w w')) ?_ ?_
         rotate_left
         ·intro hJ1_4
          refine join_ (σ := Nat) 4 #[true, true, true, false, false, true, false, false] (fun s_ => [(18, .agg #[.int .i64 t216, .int .i64 t217, .int .i64 t218]), (6, .pointer (some ⟨s_, 0, none⟩))]) (fun s_ w' => (w'.cell? ⟨gb212, 0, none⟩ = some (.int .i64 a0_0) ∧ w'.cell? ⟨gb212, 1, none⟩ = some (.int .i64 a0_1) ∧ w'.cell? ⟨gb213, 0, none⟩ = some (.int .i64 a1_0) ∧ w'.cell? ⟨gb213, 1, none⟩ = some (.int .i64 a1_1)) ∧ (w'.heap[gb212]? = some (.cells #[.int .i64 a0_0, .int .i64 a0_1] 23 (0, 0))) ∧ (w'.heap[gb213]? = some (.cells #[.int .i64 a1_0, .int .i64 a1_1] 23 (0, 0))) ∧ (w'.heap[s_]? = some (.cells #[.int .i64 0, .int .i64 0, .int .i64 0] 48 (0, 0))) ∧ (w.heap.size ≤ s_) ∧ (w.heap.size ≤ s_) ∧ (gb212 ≠ s_) ∧ (s_ ≠ gb212) ∧ (gb213 ≠ s_) ∧ (s_ ≠ gb213) ∧ (Below w.heap.size w w')) ?_ ?_
          rotate_left
          ·intro hJ1_5
           refine join_ (σ := Nat × Nat) 4 #[true, false, true, false, true, true, false, false] (fun s_ => [(5, .pointer (some ⟨s_.1, 0, none⟩)), (6, .pointer (some ⟨s_.2, 0, none⟩))]) (fun s_ w' => (w'.cell? ⟨gb212, 0, none⟩ = some (.int .i64 a0_0) ∧ w'.cell? ⟨gb212, 1, none⟩ = some (.int .i64 a0_1) ∧ w'.cell? ⟨gb213, 0, none⟩ = some (.int .i64 a1_0) ∧ w'.cell? ⟨gb213, 1, none⟩ = some (.int .i64 a1_1)) ∧ (w'.heap[gb212]? = some (.cells #[.int .i64 a0_0, .int .i64 a0_1] 23 (0, 0))) ∧ (w'.heap[gb213]? = some (.cells #[.int .i64 a1_0, .int .i64 a1_1] 23 (0, 0))) ∧ (w'.heap[s_.1]? = some (.cells #[.int .i64 0, .int .i64 0, .int .i64 0] 48 (0, 0))) ∧ (w'.heap[s_.2]? = some (.cells #[.int .i64 0, .int .i64 0, .int .i64 0] 48 (0, 0))) ∧ (w.heap.size ≤ s_.1) ∧ (w.heap.size ≤ s_.1) ∧ (gb212 ≠ s_.1) ∧ (s_.1 ≠ gb212) ∧ (gb213 ≠ s_.1) ∧ (s_.1 ≠ gb213) ∧ (s_.2 ≠ s_.1) ∧ (s_.1 ≠ s_.2) ∧ (w.heap.size ≤ s_.2) ∧ (w.heap.size ≤ s_.2) ∧ (gb212 ≠ s_.2) ∧ (s_.2 ≠ gb212) ∧ (gb213 ≠ s_.2) ∧ (s_.2 ≠ gb213) ∧ (Below w.heap.size w w')) ?_ ?_
           rotate_left
           ·intro hJ4_5
            refine join_ (σ := Unit) 5 #[true, true, true, false, false, false, false, false] (fun s_ => [(18, .agg #[.int .i64 t216, .int .i64 t217, .int .i64 t218])]) (fun s_ w' => (w'.cell? ⟨gb212, 0, none⟩ = some (.int .i64 a0_0) ∧ w'.cell? ⟨gb212, 1, none⟩ = some (.int .i64 a0_1) ∧ w'.cell? ⟨gb213, 0, none⟩ = some (.int .i64 a1_0) ∧ w'.cell? ⟨gb213, 1, none⟩ = some (.int .i64 a1_1)) ∧ (w'.heap[gb212]? = some (.cells #[.int .i64 a0_0, .int .i64 a0_1] 23 (0, 0))) ∧ (w'.heap[gb213]? = some (.cells #[.int .i64 a1_0, .int .i64 a1_1] 23 (0, 0))) ∧ (Below w.heap.size w w')) ?_ ?_
            rotate_left
            ·intro hJ1
             refine join_ (σ := Nat) 5 #[true, false, true, false, true, false, false, false] (fun s_ => [(5, .pointer (some ⟨s_, 0, none⟩))]) (fun s_ w' => (w'.cell? ⟨gb212, 0, none⟩ = some (.int .i64 a0_0) ∧ w'.cell? ⟨gb212, 1, none⟩ = some (.int .i64 a0_1) ∧ w'.cell? ⟨gb213, 0, none⟩ = some (.int .i64 a1_0) ∧ w'.cell? ⟨gb213, 1, none⟩ = some (.int .i64 a1_1)) ∧ (w'.heap[gb212]? = some (.cells #[.int .i64 a0_0, .int .i64 a0_1] 23 (0, 0))) ∧ (w'.heap[gb213]? = some (.cells #[.int .i64 a1_0, .int .i64 a1_1] 23 (0, 0))) ∧ (w'.heap[s_]? = some (.cells #[.int .i64 0, .int .i64 0, .int .i64 0] 48 (0, 0))) ∧ (w.heap.size ≤ s_) ∧ (w.heap.size ≤ s_) ∧ (gb212 ≠ s_) ∧ (s_ ≠ gb212) ∧ (gb213 ≠ s_) ∧ (s_ ≠ gb213) ∧ (Below w.heap.size w w')) ?_ ?_
             rotate_left
             ·intro hJ4
              refine join_ (σ := Nat) 5 #[true, false, true, false, false, true, false, false] (fun s_ => [(6, .pointer (some ⟨s_, 0, none⟩))]) (fun s_ w' => (w'.cell? ⟨gb212, 0, none⟩ = some (.int .i64 a0_0) ∧ w'.cell? ⟨gb212, 1, none⟩ = some (.int .i64 a0_1) ∧ w'.cell? ⟨gb213, 0, none⟩ = some (.int .i64 a1_0) ∧ w'.cell? ⟨gb213, 1, none⟩ = some (.int .i64 a1_1)) ∧ (w'.heap[gb212]? = some (.cells #[.int .i64 a0_0, .int .i64 a0_1] 23 (0, 0))) ∧ (w'.heap[gb213]? = some (.cells #[.int .i64 a1_0, .int .i64 a1_1] 23 (0, 0))) ∧ (w'.heap[s_]? = some (.cells #[.int .i64 0, .int .i64 0, .int .i64 0] 48 (0, 0))) ∧ (w.heap.size ≤ s_) ∧ (w.heap.size ≤ s_) ∧ (gb212 ≠ s_) ∧ (s_ ≠ gb212) ∧ (gb213 ≠ s_) ∧ (s_ ≠ gb213) ∧ (Below w.heap.size w w')) ?_ ?_
              rotate_left
              ·intro hJ5
               refine three_ (i := 1) (j := 4) (k := 5) (Ni := some 18) (Nj := some 5) (Nk := some 6) #[true, true, true, false, false, false, false, false] #[true, false, true, false, true, false, false, false] #[true, false, true, false, false, true, false, false] rfl rfl rfl rfl rfl rfl (three_of HT_.out (by kernel_rfl)) (by decide) (by decide) (by decide) (fun K hK => ?_) (fun K hK => ?_) (fun K hK => ?_)
               ·skip
                refine goes_ Try.func28 (by kernel_rfl) rfl #[.agg #[.int .i64 a0_0, .int .i64 a0_1]] (by rfl) rfl rfl (by (try simp only [List.map_toArray, List.map_cons, List.map_nil]); first | done | rfl | (simp only [List.length_drop, List.length_take]; rfl)) ?_
                with_reducible refine (sphere_vector.calls kj2 a0_0 a0_1 t216 t217 t218 _ A18.out).mono ?_
                rintro e w21 ⟨rfl, hb⟩
                refine ⟨_, rfl, ?_⟩
                have n0_ := Aside0.mk (blk_below (g := gb212) (o := .cells #[.int .i64 a0_0, .int .i64 a0_1] 23 (0, 0)) BK212.out hb)
                have n1_ := Aside0.mk (blk_below (g := gb213) (o := .cells #[.int .i64 a1_0, .int .i64 a1_1] 23 (0, 0)) BK213.out hb)
                have n2_ := Aside0.mk (below_step (by with_reducible repeat first | exact HB.out | apply ba | apply bn | apply bd | refine bs ?_ GE212.out | refine bs ?_ GE213.out) hb)
                clear BK212
                clear BK213
                clear HB
                have BK212 := n0_
                have BK213 := n1_
                have HB := n2_
                clear n0_ n1_ n2_
                (try clear hb)
                (try clear hb2)
                (try clear hk)
                (try clear hi)
                refine hK.out _ _ ⟨(blk_cell BK212.out 0).trans rfl, (blk_cell BK212.out 1).trans rfl, (blk_cell BK213.out 0).trans rfl, (blk_cell BK213.out 1).trans rfl⟩ (fun hHeld => ?_)
                clear hK K
                refine norm_ (a' := ?_) ?_ ?_
                rotate_left
                ·show Act.put _ (some 18) _ = _
                 simp only [Act.put, s1, s2, s3, i64_w, i32_w]
                 rfl
                exact norm_ (by first | (simp only [putAll, Act.put, s1, s2, s3]; done) | (simp only [putAll, Act.put, s1, s2, s3]; rfl)) (hJ1 () _ ⟨hHeld, BK212.out, BK213.out, (by with_reducible repeat first | exact HB.out | apply ba | apply bn | apply bd | refine bs ?_ GE212.out | refine bs ?_ GE213.out)⟩)
               ·skip
                refine box_step ?hg (N := 5) ?hd (cs := #[.int .i64 0, .int .i64 0, .int .i64 0]) (t := 48) ?hr ?_; (case hd => rfl); (case hg => rfl); (case hr => first | (go_simp; done) | (go_simp; rfl))
                intro gb222 hg w21 hbox hb
                have n0_ := Aside0.mk (blk_below (g := gb212) (o := .cells #[.int .i64 a0_0, .int .i64 a0_1] 23 (0, 0)) BK212.out hb)
                have n1_ := Aside0.mk (blk_below (g := gb213) (o := .cells #[.int .i64 a1_0, .int .i64 a1_1] 23 (0, 0)) BK213.out hb)
                have n2_ := Aside0.mk (below_step (by with_reducible repeat first | exact HB.out | apply ba | apply bn | apply bd | refine bs ?_ GE212.out | refine bs ?_ GE213.out) hb)
                have n3_ := Aside0.mk (hbox)
                have n4_ := Aside0.mk ((by rw [hg]; exact (below_size (by with_reducible repeat first | exact HB.out | apply ba | apply bn | apply bd | refine bs ?_ GE212.out | refine bs ?_ GE213.out)) : w.heap.size ≤ gb222))
                have n5_ := Aside0.mk ((by rw [hg]; exact (below_size (by with_reducible repeat first | exact HB.out | apply ba | apply bn | apply bd | refine bs ?_ GE212.out | refine bs ?_ GE213.out)) : w.heap.size ≤ gb222))
                have n6_ := Aside0.mk ((by rw [hg]; exact Nat.ne_of_lt (blk_lt (g := gb212) (o := .cells #[.int .i64 a0_0, .int .i64 a0_1] 23 (0, 0)) BK212.out) : gb212 ≠ gb222))
                have n7_ := Aside0.mk ((by rw [hg]; exact Nat.ne_of_gt (blk_lt (g := gb212) (o := .cells #[.int .i64 a0_0, .int .i64 a0_1] 23 (0, 0)) BK212.out) : gb222 ≠ gb212))
                have n8_ := Aside0.mk ((by rw [hg]; exact Nat.ne_of_lt (blk_lt (g := gb213) (o := .cells #[.int .i64 a1_0, .int .i64 a1_1] 23 (0, 0)) BK213.out) : gb213 ≠ gb222))
                have n9_ := Aside0.mk ((by rw [hg]; exact Nat.ne_of_gt (blk_lt (g := gb213) (o := .cells #[.int .i64 a1_0, .int .i64 a1_1] 23 (0, 0)) BK213.out) : gb222 ≠ gb213))
                clear BK212
                clear BK213
                clear HB
                have BK212 := n0_
                have BK213 := n1_
                have HB := n2_
                have BK222 := n3_
                have GW222 := n4_
                have GE222 := n5_
                have NB212_222 := n6_
                have NB222_212 := n7_
                have NB213_222 := n8_
                have NB222_213 := n9_
                clear n0_ n1_ n2_ n3_ n4_ n5_ n6_ n7_ n8_ n9_
                clear hb hbox hg
                refine hK.out _ _ ⟨(blk_cell BK212.out 0).trans rfl, (blk_cell BK212.out 1).trans rfl, (blk_cell BK213.out 0).trans rfl, (blk_cell BK213.out 1).trans rfl⟩ (fun hHeld => ?_)
                clear hK K
                refine norm_ (a' := ?_) ?_ ?_
                rotate_left
                ·show Act.put _ (some 5) _ = _
                 simp only [Act.put, s1, s2, s3, i64_w, i32_w]
                 rfl
                exact norm_ (by first | (simp only [putAll, Act.put, s1, s2, s3]; done) | (simp only [putAll, Act.put, s1, s2, s3]; rfl)) (hJ4 (gb222) _ ⟨hHeld, BK212.out, BK213.out, BK222.out, GW222.out, GE222.out, NB212_222.out, NB222_212.out, NB213_222.out, NB222_213.out, (by with_reducible repeat first | exact HB.out | apply ba | apply bn | apply bd | refine bs ?_ GE212.out | refine bs ?_ GE213.out | refine bs ?_ GE222.out)⟩)
               ·skip
                refine box_step ?hg (N := 6) ?hd (cs := #[.int .i64 0, .int .i64 0, .int .i64 0]) (t := 48) ?hr ?_; (case hd => rfl); (case hg => rfl); (case hr => first | (go_simp; done) | (go_simp; rfl))
                intro gb223 hg w21 hbox hb
                have n0_ := Aside0.mk (blk_below (g := gb212) (o := .cells #[.int .i64 a0_0, .int .i64 a0_1] 23 (0, 0)) BK212.out hb)
                have n1_ := Aside0.mk (blk_below (g := gb213) (o := .cells #[.int .i64 a1_0, .int .i64 a1_1] 23 (0, 0)) BK213.out hb)
                have n2_ := Aside0.mk (below_step (by with_reducible repeat first | exact HB.out | apply ba | apply bn | apply bd | refine bs ?_ GE212.out | refine bs ?_ GE213.out) hb)
                have n3_ := Aside0.mk (hbox)
                have n4_ := Aside0.mk ((by rw [hg]; exact (below_size (by with_reducible repeat first | exact HB.out | apply ba | apply bn | apply bd | refine bs ?_ GE212.out | refine bs ?_ GE213.out)) : w.heap.size ≤ gb223))
                have n5_ := Aside0.mk ((by rw [hg]; exact (below_size (by with_reducible repeat first | exact HB.out | apply ba | apply bn | apply bd | refine bs ?_ GE212.out | refine bs ?_ GE213.out)) : w.heap.size ≤ gb223))
                have n6_ := Aside0.mk ((by rw [hg]; exact Nat.ne_of_lt (blk_lt (g := gb212) (o := .cells #[.int .i64 a0_0, .int .i64 a0_1] 23 (0, 0)) BK212.out) : gb212 ≠ gb223))
                have n7_ := Aside0.mk ((by rw [hg]; exact Nat.ne_of_gt (blk_lt (g := gb212) (o := .cells #[.int .i64 a0_0, .int .i64 a0_1] 23 (0, 0)) BK212.out) : gb223 ≠ gb212))
                have n8_ := Aside0.mk ((by rw [hg]; exact Nat.ne_of_lt (blk_lt (g := gb213) (o := .cells #[.int .i64 a1_0, .int .i64 a1_1] 23 (0, 0)) BK213.out) : gb213 ≠ gb223))
                have n9_ := Aside0.mk ((by rw [hg]; exact Nat.ne_of_gt (blk_lt (g := gb213) (o := .cells #[.int .i64 a1_0, .int .i64 a1_1] 23 (0, 0)) BK213.out) : gb223 ≠ gb213))
                clear BK212
                clear BK213
                clear HB
                have BK212 := n0_
                have BK213 := n1_
                have HB := n2_
                have BK223 := n3_
                have GW223 := n4_
                have GE223 := n5_
                have NB212_223 := n6_
                have NB223_212 := n7_
                have NB213_223 := n8_
                have NB223_213 := n9_
                clear n0_ n1_ n2_ n3_ n4_ n5_ n6_ n7_ n8_ n9_
                clear hb hbox hg
                refine hK.out _ _ ⟨(blk_cell BK212.out 0).trans rfl, (blk_cell BK212.out 1).trans rfl, (blk_cell BK213.out 0).trans rfl, (blk_cell BK213.out 1).trans rfl⟩ (fun hHeld => ?_)
                clear hK K
                refine norm_ (a' := ?_) ?_ ?_
                rotate_left
                ·show Act.put _ (some 6) _ = _
                 simp only [Act.put, s1, s2, s3, i64_w, i32_w]
                 rfl
                exact norm_ (by first | (simp only [putAll, Act.put, s1, s2, s3]; done) | (simp only [putAll, Act.put, s1, s2, s3]; rfl)) (hJ5 (gb223) _ ⟨hHeld, BK212.out, BK213.out, BK223.out, GW223.out, GE223.out, NB212_223.out, NB223_212.out, NB213_223.out, NB223_213.out, (by with_reducible repeat first | exact HB.out | apply ba | apply bn | apply bd | refine bs ?_ GE212.out | refine bs ?_ GE213.out | refine bs ?_ GE223.out)⟩)
              ·skip
               rintro gb223 w22 ⟨hS_, h0_, h1_, h2_, h3_, h4_, h5_, h6_, h7_, h8_, h9_⟩
               have n0_ : Aside0 (w22.heap[gb212]? = some (.cells #[.int .i64 a0_0, .int .i64 a0_1] 23 (0, 0))) := ⟨h0_⟩
               have n1_ : Aside0 (w22.heap[gb213]? = some (.cells #[.int .i64 a1_0, .int .i64 a1_1] 23 (0, 0))) := ⟨h1_⟩
               have n2_ : Aside0 (w22.heap[gb223]? = some (.cells #[.int .i64 0, .int .i64 0, .int .i64 0] 48 (0, 0))) := ⟨h2_⟩
               have n3_ : Aside0 (w.heap.size ≤ gb223) := ⟨h3_⟩
               have n4_ : Aside0 (w.heap.size ≤ gb223) := ⟨h4_⟩
               have n5_ : Aside0 (gb212 ≠ gb223) := ⟨h5_⟩
               have n6_ : Aside0 (gb223 ≠ gb212) := ⟨h6_⟩
               have n7_ : Aside0 (gb213 ≠ gb223) := ⟨h7_⟩
               have n8_ : Aside0 (gb223 ≠ gb213) := ⟨h8_⟩
               have n9_ : Aside0 (Below w.heap.size w w22) := ⟨h9_⟩
               clear BK212
               clear BK213
               clear HB
               clear h0_ h1_ h2_ h3_ h4_ h5_ h6_ h7_ h8_ h9_
               have BK212 := n0_
               have BK213 := n1_
               have BK223 := n2_
               have GW223 := n3_
               have GE223 := n4_
               have NB212_223 := n5_
               have NB223_212 := n6_
               have NB213_223 := n7_
               have NB223_213 := n8_
               have HB := n9_
               clear n0_ n1_ n2_ n3_ n4_ n5_ n6_ n7_ n8_ n9_
               have hHeld : w22.cell? ⟨gb212, 0, none⟩ = some (.int .i64 a0_0) ∧ w22.cell? ⟨gb212, 1, none⟩ = some (.int .i64 a0_1) ∧ w22.cell? ⟨gb213, 0, none⟩ = some (.int .i64 a1_0) ∧ w22.cell? ⟨gb213, 1, none⟩ = some (.int .i64 a1_1) := hS_
               refine norm_ (a' := ?_) ?_ ?_
               rotate_left
               ·simp only [putAll, Act.put, s1, s2, s3]
                rfl
               refine two_ (i := 1) (j := 4) (Ni := some 18) (Nj := some 5) #[true, true, true, false, false, true, false, false] #[true, false, true, false, true, true, false, false] rfl rfl rfl rfl (two_of HT_.out (by kernel_rfl)) (by decide) (by decide) (fun K hK => ?_) (fun K hK => ?_)
               ·skip
                refine goes_ Try.func28 (by kernel_rfl) rfl #[.agg #[.int .i64 a0_0, .int .i64 a0_1]] (by rfl) rfl rfl (by (try simp only [List.map_toArray, List.map_cons, List.map_nil]); first | done | rfl | (simp only [List.length_drop, List.length_take]; rfl)) ?_
                with_reducible refine (sphere_vector.calls kj2 a0_0 a0_1 t216 t217 t218 _ A18.out).mono ?_
                rintro e w23 ⟨rfl, hb⟩
                refine ⟨_, rfl, ?_⟩
                have n0_ := Aside0.mk (blk_below (g := gb212) (o := .cells #[.int .i64 a0_0, .int .i64 a0_1] 23 (0, 0)) BK212.out hb)
                have n1_ := Aside0.mk (blk_below (g := gb213) (o := .cells #[.int .i64 a1_0, .int .i64 a1_1] 23 (0, 0)) BK213.out hb)
                have n2_ := Aside0.mk (blk_below (g := gb223) (o := .cells #[.int .i64 0, .int .i64 0, .int .i64 0] 48 (0, 0)) BK223.out hb)
                have n3_ := Aside0.mk (below_step (by with_reducible repeat first | exact HB.out | apply ba | apply bn | apply bd | refine bs ?_ GE212.out | refine bs ?_ GE213.out | refine bs ?_ GE223.out) hb)
                clear BK212
                clear BK213
                clear BK223
                clear HB
                have BK212 := n0_
                have BK213 := n1_
                have BK223 := n2_
                have HB := n3_
                clear n0_ n1_ n2_ n3_
                (try clear hb)
                (try clear hb2)
                (try clear hk)
                (try clear hi)
                refine hK.out _ _ ⟨(blk_cell BK212.out 0).trans rfl, (blk_cell BK212.out 1).trans rfl, (blk_cell BK213.out 0).trans rfl, (blk_cell BK213.out 1).trans rfl⟩ (fun hHeld => ?_)
                clear hK K
                refine norm_ (a' := ?_) ?_ ?_
                rotate_left
                ·show Act.put _ (some 18) _ = _
                 simp only [Act.put, s1, s2, s3, i64_w, i32_w]
                 rfl
                exact norm_ (by first | (simp only [putAll, Act.put, s1, s2, s3]; done) | (simp only [putAll, Act.put, s1, s2, s3]; rfl)) (hJ1_5 (gb223) _ ⟨hHeld, BK212.out, BK213.out, BK223.out, GW223.out, GE223.out, NB212_223.out, NB223_212.out, NB213_223.out, NB223_213.out, (by with_reducible repeat first | exact HB.out | apply ba | apply bn | apply bd | refine bs ?_ GE212.out | refine bs ?_ GE213.out | refine bs ?_ GE223.out)⟩)
               ·skip
                refine box_step ?hg (N := 5) ?hd (cs := #[.int .i64 0, .int .i64 0, .int .i64 0]) (t := 48) ?hr ?_; (case hd => rfl); (case hg => rfl); (case hr => first | (go_simp; done) | (go_simp; rfl))
                intro gb222 hg w23 hbox hb
                have n0_ := Aside0.mk (blk_below (g := gb212) (o := .cells #[.int .i64 a0_0, .int .i64 a0_1] 23 (0, 0)) BK212.out hb)
                have n1_ := Aside0.mk (blk_below (g := gb213) (o := .cells #[.int .i64 a1_0, .int .i64 a1_1] 23 (0, 0)) BK213.out hb)
                have n2_ := Aside0.mk (blk_below (g := gb223) (o := .cells #[.int .i64 0, .int .i64 0, .int .i64 0] 48 (0, 0)) BK223.out hb)
                have n3_ := Aside0.mk (below_step (by with_reducible repeat first | exact HB.out | apply ba | apply bn | apply bd | refine bs ?_ GE212.out | refine bs ?_ GE213.out | refine bs ?_ GE223.out) hb)
                have n4_ := Aside0.mk (hbox)
                have n5_ := Aside0.mk ((by rw [hg]; exact (below_size (by with_reducible repeat first | exact HB.out | apply ba | apply bn | apply bd | refine bs ?_ GE212.out | refine bs ?_ GE213.out | refine bs ?_ GE223.out)) : w.heap.size ≤ gb222))
                have n6_ := Aside0.mk ((by rw [hg]; exact (below_size (by with_reducible repeat first | exact HB.out | apply ba | apply bn | apply bd | refine bs ?_ GE212.out | refine bs ?_ GE213.out | refine bs ?_ GE223.out)) : w.heap.size ≤ gb222))
                have n7_ := Aside0.mk ((by rw [hg]; exact Nat.ne_of_lt (blk_lt (g := gb212) (o := .cells #[.int .i64 a0_0, .int .i64 a0_1] 23 (0, 0)) BK212.out) : gb212 ≠ gb222))
                have n8_ := Aside0.mk ((by rw [hg]; exact Nat.ne_of_gt (blk_lt (g := gb212) (o := .cells #[.int .i64 a0_0, .int .i64 a0_1] 23 (0, 0)) BK212.out) : gb222 ≠ gb212))
                have n9_ := Aside0.mk ((by rw [hg]; exact Nat.ne_of_lt (blk_lt (g := gb213) (o := .cells #[.int .i64 a1_0, .int .i64 a1_1] 23 (0, 0)) BK213.out) : gb213 ≠ gb222))
                have n10_ := Aside0.mk ((by rw [hg]; exact Nat.ne_of_gt (blk_lt (g := gb213) (o := .cells #[.int .i64 a1_0, .int .i64 a1_1] 23 (0, 0)) BK213.out) : gb222 ≠ gb213))
                have n11_ := Aside0.mk ((by rw [hg]; exact Nat.ne_of_lt (blk_lt (g := gb223) (o := .cells #[.int .i64 0, .int .i64 0, .int .i64 0] 48 (0, 0)) BK223.out) : gb223 ≠ gb222))
                have n12_ := Aside0.mk ((by rw [hg]; exact Nat.ne_of_gt (blk_lt (g := gb223) (o := .cells #[.int .i64 0, .int .i64 0, .int .i64 0] 48 (0, 0)) BK223.out) : gb222 ≠ gb223))
                clear BK212
                clear BK213
                clear BK223
                clear HB
                have BK212 := n0_
                have BK213 := n1_
                have BK223 := n2_
                have HB := n3_
                have BK222 := n4_
                have GW222 := n5_
                have GE222 := n6_
                have NB212_222 := n7_
                have NB222_212 := n8_
                have NB213_222 := n9_
                have NB222_213 := n10_
                have NB223_222 := n11_
                have NB222_223 := n12_
                clear n0_ n1_ n2_ n3_ n4_ n5_ n6_ n7_ n8_ n9_ n10_ n11_ n12_
                clear hb hbox hg
                refine hK.out _ _ ⟨(blk_cell BK212.out 0).trans rfl, (blk_cell BK212.out 1).trans rfl, (blk_cell BK213.out 0).trans rfl, (blk_cell BK213.out 1).trans rfl⟩ (fun hHeld => ?_)
                clear hK K
                refine norm_ (a' := ?_) ?_ ?_
                rotate_left
                ·show Act.put _ (some 5) _ = _
                 simp only [Act.put, s1, s2, s3, i64_w, i32_w]
                 rfl
                exact norm_ (by first | (simp only [putAll, Act.put, s1, s2, s3]; done) | (simp only [putAll, Act.put, s1, s2, s3]; rfl)) (hJ4_5 (gb222, gb223) _ ⟨hHeld, BK212.out, BK213.out, BK222.out, BK223.out, GW222.out, GE222.out, NB212_222.out, NB222_212.out, NB213_222.out, NB222_213.out, NB223_222.out, NB222_223.out, GW223.out, GE223.out, NB212_223.out, NB223_212.out, NB213_223.out, NB223_213.out, (by with_reducible repeat first | exact HB.out | apply ba | apply bn | apply bd | refine bs ?_ GE212.out | refine bs ?_ GE213.out | refine bs ?_ GE223.out | refine bs ?_ GE222.out)⟩)
             ·skip
              rintro gb222 w22 ⟨hS_, h0_, h1_, h2_, h3_, h4_, h5_, h6_, h7_, h8_, h9_⟩
              have n0_ : Aside0 (w22.heap[gb212]? = some (.cells #[.int .i64 a0_0, .int .i64 a0_1] 23 (0, 0))) := ⟨h0_⟩
              have n1_ : Aside0 (w22.heap[gb213]? = some (.cells #[.int .i64 a1_0, .int .i64 a1_1] 23 (0, 0))) := ⟨h1_⟩
              have n2_ : Aside0 (w22.heap[gb222]? = some (.cells #[.int .i64 0, .int .i64 0, .int .i64 0] 48 (0, 0))) := ⟨h2_⟩
              have n3_ : Aside0 (w.heap.size ≤ gb222) := ⟨h3_⟩
              have n4_ : Aside0 (w.heap.size ≤ gb222) := ⟨h4_⟩
              have n5_ : Aside0 (gb212 ≠ gb222) := ⟨h5_⟩
              have n6_ : Aside0 (gb222 ≠ gb212) := ⟨h6_⟩
              have n7_ : Aside0 (gb213 ≠ gb222) := ⟨h7_⟩
              have n8_ : Aside0 (gb222 ≠ gb213) := ⟨h8_⟩
              have n9_ : Aside0 (Below w.heap.size w w22) := ⟨h9_⟩
              clear BK212
              clear BK213
              clear HB
              clear h0_ h1_ h2_ h3_ h4_ h5_ h6_ h7_ h8_ h9_
              have BK212 := n0_
              have BK213 := n1_
              have BK222 := n2_
              have GW222 := n3_
              have GE222 := n4_
              have NB212_222 := n5_
              have NB222_212 := n6_
              have NB213_222 := n7_
              have NB222_213 := n8_
              have HB := n9_
              clear n0_ n1_ n2_ n3_ n4_ n5_ n6_ n7_ n8_ n9_
              have hHeld : w22.cell? ⟨gb212, 0, none⟩ = some (.int .i64 a0_0) ∧ w22.cell? ⟨gb212, 1, none⟩ = some (.int .i64 a0_1) ∧ w22.cell? ⟨gb213, 0, none⟩ = some (.int .i64 a1_0) ∧ w22.cell? ⟨gb213, 1, none⟩ = some (.int .i64 a1_1) := hS_
              refine norm_ (a' := ?_) ?_ ?_
              rotate_left
              ·simp only [putAll, Act.put, s1, s2, s3]
               rfl
              refine two_ (i := 1) (j := 5) (Ni := some 18) (Nj := some 6) #[true, true, true, false, true, false, false, false] #[true, false, true, false, true, true, false, false] rfl rfl rfl rfl (two_of HT_.out (by kernel_rfl)) (by decide) (by decide) (fun K hK => ?_) (fun K hK => ?_)
              ·skip
               refine goes_ Try.func28 (by kernel_rfl) rfl #[.agg #[.int .i64 a0_0, .int .i64 a0_1]] (by rfl) rfl rfl (by (try simp only [List.map_toArray, List.map_cons, List.map_nil]); first | done | rfl | (simp only [List.length_drop, List.length_take]; rfl)) ?_
               with_reducible refine (sphere_vector.calls kj2 a0_0 a0_1 t216 t217 t218 _ A18.out).mono ?_
               rintro e w23 ⟨rfl, hb⟩
               refine ⟨_, rfl, ?_⟩
               have n0_ := Aside0.mk (blk_below (g := gb212) (o := .cells #[.int .i64 a0_0, .int .i64 a0_1] 23 (0, 0)) BK212.out hb)
               have n1_ := Aside0.mk (blk_below (g := gb213) (o := .cells #[.int .i64 a1_0, .int .i64 a1_1] 23 (0, 0)) BK213.out hb)
               have n2_ := Aside0.mk (blk_below (g := gb222) (o := .cells #[.int .i64 0, .int .i64 0, .int .i64 0] 48 (0, 0)) BK222.out hb)
               have n3_ := Aside0.mk (below_step (by with_reducible repeat first | exact HB.out | apply ba | apply bn | apply bd | refine bs ?_ GE212.out | refine bs ?_ GE213.out | refine bs ?_ GE222.out) hb)
               clear BK212
               clear BK213
               clear BK222
               clear HB
               have BK212 := n0_
               have BK213 := n1_
               have BK222 := n2_
               have HB := n3_
               clear n0_ n1_ n2_ n3_
               (try clear hb)
               (try clear hb2)
               (try clear hk)
               (try clear hi)
               refine hK.out _ _ ⟨(blk_cell BK212.out 0).trans rfl, (blk_cell BK212.out 1).trans rfl, (blk_cell BK213.out 0).trans rfl, (blk_cell BK213.out 1).trans rfl⟩ (fun hHeld => ?_)
               clear hK K
               refine norm_ (a' := ?_) ?_ ?_
               rotate_left
               ·show Act.put _ (some 18) _ = _
                simp only [Act.put, s1, s2, s3, i64_w, i32_w]
                rfl
               exact norm_ (by first | (simp only [putAll, Act.put, s1, s2, s3]; done) | (simp only [putAll, Act.put, s1, s2, s3]; rfl)) (hJ1_4 (gb222) _ ⟨hHeld, BK212.out, BK213.out, BK222.out, GW222.out, GE222.out, NB212_222.out, NB222_212.out, NB213_222.out, NB222_213.out, (by with_reducible repeat first | exact HB.out | apply ba | apply bn | apply bd | refine bs ?_ GE212.out | refine bs ?_ GE213.out | refine bs ?_ GE222.out)⟩)
              ·skip
               refine box_step ?hg (N := 6) ?hd (cs := #[.int .i64 0, .int .i64 0, .int .i64 0]) (t := 48) ?hr ?_; (case hd => rfl); (case hg => rfl); (case hr => first | (go_simp; done) | (go_simp; rfl))
               intro gb223 hg w23 hbox hb
               have n0_ := Aside0.mk (blk_below (g := gb212) (o := .cells #[.int .i64 a0_0, .int .i64 a0_1] 23 (0, 0)) BK212.out hb)
               have n1_ := Aside0.mk (blk_below (g := gb213) (o := .cells #[.int .i64 a1_0, .int .i64 a1_1] 23 (0, 0)) BK213.out hb)
               have n2_ := Aside0.mk (blk_below (g := gb222) (o := .cells #[.int .i64 0, .int .i64 0, .int .i64 0] 48 (0, 0)) BK222.out hb)
               have n3_ := Aside0.mk (below_step (by with_reducible repeat first | exact HB.out | apply ba | apply bn | apply bd | refine bs ?_ GE212.out | refine bs ?_ GE213.out | refine bs ?_ GE222.out) hb)
               have n4_ := Aside0.mk (hbox)
               have n5_ := Aside0.mk ((by rw [hg]; exact (below_size (by with_reducible repeat first | exact HB.out | apply ba | apply bn | apply bd | refine bs ?_ GE212.out | refine bs ?_ GE213.out | refine bs ?_ GE222.out)) : w.heap.size ≤ gb223))
               have n6_ := Aside0.mk ((by rw [hg]; exact (below_size (by with_reducible repeat first | exact HB.out | apply ba | apply bn | apply bd | refine bs ?_ GE212.out | refine bs ?_ GE213.out | refine bs ?_ GE222.out)) : w.heap.size ≤ gb223))
               have n7_ := Aside0.mk ((by rw [hg]; exact Nat.ne_of_lt (blk_lt (g := gb212) (o := .cells #[.int .i64 a0_0, .int .i64 a0_1] 23 (0, 0)) BK212.out) : gb212 ≠ gb223))
               have n8_ := Aside0.mk ((by rw [hg]; exact Nat.ne_of_gt (blk_lt (g := gb212) (o := .cells #[.int .i64 a0_0, .int .i64 a0_1] 23 (0, 0)) BK212.out) : gb223 ≠ gb212))
               have n9_ := Aside0.mk ((by rw [hg]; exact Nat.ne_of_lt (blk_lt (g := gb213) (o := .cells #[.int .i64 a1_0, .int .i64 a1_1] 23 (0, 0)) BK213.out) : gb213 ≠ gb223))
               have n10_ := Aside0.mk ((by rw [hg]; exact Nat.ne_of_gt (blk_lt (g := gb213) (o := .cells #[.int .i64 a1_0, .int .i64 a1_1] 23 (0, 0)) BK213.out) : gb223 ≠ gb213))
               have n11_ := Aside0.mk ((by rw [hg]; exact Nat.ne_of_lt (blk_lt (g := gb222) (o := .cells #[.int .i64 0, .int .i64 0, .int .i64 0] 48 (0, 0)) BK222.out) : gb222 ≠ gb223))
               have n12_ := Aside0.mk ((by rw [hg]; exact Nat.ne_of_gt (blk_lt (g := gb222) (o := .cells #[.int .i64 0, .int .i64 0, .int .i64 0] 48 (0, 0)) BK222.out) : gb223 ≠ gb222))
               clear BK212
               clear BK213
               clear BK222
               clear HB
               have BK212 := n0_
               have BK213 := n1_
               have BK222 := n2_
               have HB := n3_
               have BK223 := n4_
               have GW223 := n5_
               have GE223 := n6_
               have NB212_223 := n7_
               have NB223_212 := n8_
               have NB213_223 := n9_
               have NB223_213 := n10_
               have NB222_223 := n11_
               have NB223_222 := n12_
               clear n0_ n1_ n2_ n3_ n4_ n5_ n6_ n7_ n8_ n9_ n10_ n11_ n12_
               clear hb hbox hg
               refine hK.out _ _ ⟨(blk_cell BK212.out 0).trans rfl, (blk_cell BK212.out 1).trans rfl, (blk_cell BK213.out 0).trans rfl, (blk_cell BK213.out 1).trans rfl⟩ (fun hHeld => ?_)
               clear hK K
               refine norm_ (a' := ?_) ?_ ?_
               rotate_left
               ·show Act.put _ (some 6) _ = _
                simp only [Act.put, s1, s2, s3, i64_w, i32_w]
                rfl
               exact norm_ (by first | (simp only [putAll, Act.put, s1, s2, s3]; done) | (simp only [putAll, Act.put, s1, s2, s3]; rfl)) (hJ4_5 (gb222, gb223) _ ⟨hHeld, BK212.out, BK213.out, BK222.out, BK223.out, GW222.out, GE222.out, NB212_222.out, NB222_212.out, NB213_222.out, NB222_213.out, NB223_222.out, NB222_223.out, GW223.out, GE223.out, NB212_223.out, NB223_212.out, NB213_223.out, NB223_213.out, (by with_reducible repeat first | exact HB.out | apply ba | apply bn | apply bd | refine bs ?_ GE212.out | refine bs ?_ GE213.out | refine bs ?_ GE222.out | refine bs ?_ GE223.out)⟩)
            ·skip
             rintro _ w22 ⟨hS_, h0_, h1_, h2_⟩
             have n0_ : Aside0 (w22.heap[gb212]? = some (.cells #[.int .i64 a0_0, .int .i64 a0_1] 23 (0, 0))) := ⟨h0_⟩
             have n1_ : Aside0 (w22.heap[gb213]? = some (.cells #[.int .i64 a1_0, .int .i64 a1_1] 23 (0, 0))) := ⟨h1_⟩
             have n2_ : Aside0 (Below w.heap.size w w22) := ⟨h2_⟩
             clear BK212
             clear BK213
             clear HB
             clear h0_ h1_ h2_
             have BK212 := n0_
             have BK213 := n1_
             have HB := n2_
             clear n0_ n1_ n2_
             have hHeld : w22.cell? ⟨gb212, 0, none⟩ = some (.int .i64 a0_0) ∧ w22.cell? ⟨gb212, 1, none⟩ = some (.int .i64 a0_1) ∧ w22.cell? ⟨gb213, 0, none⟩ = some (.int .i64 a1_0) ∧ w22.cell? ⟨gb213, 1, none⟩ = some (.int .i64 a1_1) := hS_
             refine norm_ (a' := ?_) ?_ ?_
             rotate_left
             ·simp only [putAll, Act.put, s1, s2, s3]
              rfl
             refine three_ (i := 3) (j := 4) (k := 5) (Ni := some 20) (Nj := some 5) (Nk := some 6) #[true, true, true, true, false, false, false, false] #[true, true, true, false, true, false, false, false] #[true, true, true, false, false, true, false, false] rfl rfl rfl rfl rfl rfl (three_of HT_.out (by kernel_rfl)) (by decide) (by decide) (by decide) (fun K hK => ?_) (fun K hK => ?_) (fun K hK => ?_)
             ·skip
              refine goes_ Try.func28 (by kernel_rfl) rfl #[.agg #[.int .i64 a1_0, .int .i64 a1_1]] (by rfl) rfl rfl (by (try simp only [List.map_toArray, List.map_cons, List.map_nil]); first | done | rfl | (simp only [List.length_drop, List.length_take]; rfl)) ?_
              with_reducible refine (sphere_vector.calls kj2 a1_0 a1_1 t219 t220 t221 _ A19.out).mono ?_
              rintro e w23 ⟨rfl, hb⟩
              refine ⟨_, rfl, ?_⟩
              have n0_ := Aside0.mk (blk_below (g := gb212) (o := .cells #[.int .i64 a0_0, .int .i64 a0_1] 23 (0, 0)) BK212.out hb)
              have n1_ := Aside0.mk (blk_below (g := gb213) (o := .cells #[.int .i64 a1_0, .int .i64 a1_1] 23 (0, 0)) BK213.out hb)
              have n2_ := Aside0.mk (below_step (by with_reducible repeat first | exact HB.out | apply ba | apply bn | apply bd | refine bs ?_ GE212.out | refine bs ?_ GE213.out) hb)
              clear BK212
              clear BK213
              clear HB
              have BK212 := n0_
              have BK213 := n1_
              have HB := n2_
              clear n0_ n1_ n2_
              (try clear hb)
              (try clear hb2)
              (try clear hk)
              (try clear hi)
              refine hK.out _ _ ⟨(blk_cell BK212.out 0).trans rfl, (blk_cell BK212.out 1).trans rfl, (blk_cell BK213.out 0).trans rfl, (blk_cell BK213.out 1).trans rfl⟩ (fun hHeld => ?_)
              clear hK K
              refine norm_ (a' := ?_) ?_ ?_
              rotate_left
              ·show Act.put _ (some 20) _ = _
               simp only [Act.put, s1, s2, s3, i64_w, i32_w]
               rfl
              exact norm_ (by first | (simp only [putAll, Act.put, s1, s2, s3]; done) | (simp only [putAll, Act.put, s1, s2, s3]; rfl)) (hJ1_3 () _ ⟨hHeld, BK212.out, BK213.out, (by with_reducible repeat first | exact HB.out | apply ba | apply bn | apply bd | refine bs ?_ GE212.out | refine bs ?_ GE213.out)⟩)
             ·skip
              refine box_step ?hg (N := 5) ?hd (cs := #[.int .i64 0, .int .i64 0, .int .i64 0]) (t := 48) ?hr ?_; (case hd => rfl); (case hg => rfl); (case hr => first | (go_simp; done) | (go_simp; rfl))
              intro gb222 hg w23 hbox hb
              have n0_ := Aside0.mk (blk_below (g := gb212) (o := .cells #[.int .i64 a0_0, .int .i64 a0_1] 23 (0, 0)) BK212.out hb)
              have n1_ := Aside0.mk (blk_below (g := gb213) (o := .cells #[.int .i64 a1_0, .int .i64 a1_1] 23 (0, 0)) BK213.out hb)
              have n2_ := Aside0.mk (below_step (by with_reducible repeat first | exact HB.out | apply ba | apply bn | apply bd | refine bs ?_ GE212.out | refine bs ?_ GE213.out) hb)
              have n3_ := Aside0.mk (hbox)
              have n4_ := Aside0.mk ((by rw [hg]; exact (below_size (by with_reducible repeat first | exact HB.out | apply ba | apply bn | apply bd | refine bs ?_ GE212.out | refine bs ?_ GE213.out)) : w.heap.size ≤ gb222))
              have n5_ := Aside0.mk ((by rw [hg]; exact (below_size (by with_reducible repeat first | exact HB.out | apply ba | apply bn | apply bd | refine bs ?_ GE212.out | refine bs ?_ GE213.out)) : w.heap.size ≤ gb222))
              have n6_ := Aside0.mk ((by rw [hg]; exact Nat.ne_of_lt (blk_lt (g := gb212) (o := .cells #[.int .i64 a0_0, .int .i64 a0_1] 23 (0, 0)) BK212.out) : gb212 ≠ gb222))
              have n7_ := Aside0.mk ((by rw [hg]; exact Nat.ne_of_gt (blk_lt (g := gb212) (o := .cells #[.int .i64 a0_0, .int .i64 a0_1] 23 (0, 0)) BK212.out) : gb222 ≠ gb212))
              have n8_ := Aside0.mk ((by rw [hg]; exact Nat.ne_of_lt (blk_lt (g := gb213) (o := .cells #[.int .i64 a1_0, .int .i64 a1_1] 23 (0, 0)) BK213.out) : gb213 ≠ gb222))
              have n9_ := Aside0.mk ((by rw [hg]; exact Nat.ne_of_gt (blk_lt (g := gb213) (o := .cells #[.int .i64 a1_0, .int .i64 a1_1] 23 (0, 0)) BK213.out) : gb222 ≠ gb213))
              clear BK212
              clear BK213
              clear HB
              have BK212 := n0_
              have BK213 := n1_
              have HB := n2_
              have BK222 := n3_
              have GW222 := n4_
              have GE222 := n5_
              have NB212_222 := n6_
              have NB222_212 := n7_
              have NB213_222 := n8_
              have NB222_213 := n9_
              clear n0_ n1_ n2_ n3_ n4_ n5_ n6_ n7_ n8_ n9_
              clear hb hbox hg
              refine hK.out _ _ ⟨(blk_cell BK212.out 0).trans rfl, (blk_cell BK212.out 1).trans rfl, (blk_cell BK213.out 0).trans rfl, (blk_cell BK213.out 1).trans rfl⟩ (fun hHeld => ?_)
              clear hK K
              refine norm_ (a' := ?_) ?_ ?_
              rotate_left
              ·show Act.put _ (some 5) _ = _
               simp only [Act.put, s1, s2, s3, i64_w, i32_w]
               rfl
              exact norm_ (by first | (simp only [putAll, Act.put, s1, s2, s3]; done) | (simp only [putAll, Act.put, s1, s2, s3]; rfl)) (hJ1_4 (gb222) _ ⟨hHeld, BK212.out, BK213.out, BK222.out, GW222.out, GE222.out, NB212_222.out, NB222_212.out, NB213_222.out, NB222_213.out, (by with_reducible repeat first | exact HB.out | apply ba | apply bn | apply bd | refine bs ?_ GE212.out | refine bs ?_ GE213.out | refine bs ?_ GE222.out)⟩)
             ·skip
              refine box_step ?hg (N := 6) ?hd (cs := #[.int .i64 0, .int .i64 0, .int .i64 0]) (t := 48) ?hr ?_; (case hd => rfl); (case hg => rfl); (case hr => first | (go_simp; done) | (go_simp; rfl))
              intro gb223 hg w23 hbox hb
              have n0_ := Aside0.mk (blk_below (g := gb212) (o := .cells #[.int .i64 a0_0, .int .i64 a0_1] 23 (0, 0)) BK212.out hb)
              have n1_ := Aside0.mk (blk_below (g := gb213) (o := .cells #[.int .i64 a1_0, .int .i64 a1_1] 23 (0, 0)) BK213.out hb)
              have n2_ := Aside0.mk (below_step (by with_reducible repeat first | exact HB.out | apply ba | apply bn | apply bd | refine bs ?_ GE212.out | refine bs ?_ GE213.out) hb)
              have n3_ := Aside0.mk (hbox)
              have n4_ := Aside0.mk ((by rw [hg]; exact (below_size (by with_reducible repeat first | exact HB.out | apply ba | apply bn | apply bd | refine bs ?_ GE212.out | refine bs ?_ GE213.out)) : w.heap.size ≤ gb223))
              have n5_ := Aside0.mk ((by rw [hg]; exact (below_size (by with_reducible repeat first | exact HB.out | apply ba | apply bn | apply bd | refine bs ?_ GE212.out | refine bs ?_ GE213.out)) : w.heap.size ≤ gb223))
              have n6_ := Aside0.mk ((by rw [hg]; exact Nat.ne_of_lt (blk_lt (g := gb212) (o := .cells #[.int .i64 a0_0, .int .i64 a0_1] 23 (0, 0)) BK212.out) : gb212 ≠ gb223))
              have n7_ := Aside0.mk ((by rw [hg]; exact Nat.ne_of_gt (blk_lt (g := gb212) (o := .cells #[.int .i64 a0_0, .int .i64 a0_1] 23 (0, 0)) BK212.out) : gb223 ≠ gb212))
              have n8_ := Aside0.mk ((by rw [hg]; exact Nat.ne_of_lt (blk_lt (g := gb213) (o := .cells #[.int .i64 a1_0, .int .i64 a1_1] 23 (0, 0)) BK213.out) : gb213 ≠ gb223))
              have n9_ := Aside0.mk ((by rw [hg]; exact Nat.ne_of_gt (blk_lt (g := gb213) (o := .cells #[.int .i64 a1_0, .int .i64 a1_1] 23 (0, 0)) BK213.out) : gb223 ≠ gb213))
              clear BK212
              clear BK213
              clear HB
              have BK212 := n0_
              have BK213 := n1_
              have HB := n2_
              have BK223 := n3_
              have GW223 := n4_
              have GE223 := n5_
              have NB212_223 := n6_
              have NB223_212 := n7_
              have NB213_223 := n8_
              have NB223_213 := n9_
              clear n0_ n1_ n2_ n3_ n4_ n5_ n6_ n7_ n8_ n9_
              clear hb hbox hg
              refine hK.out _ _ ⟨(blk_cell BK212.out 0).trans rfl, (blk_cell BK212.out 1).trans rfl, (blk_cell BK213.out 0).trans rfl, (blk_cell BK213.out 1).trans rfl⟩ (fun hHeld => ?_)
              clear hK K
              refine norm_ (a' := ?_) ?_ ?_
              rotate_left
              ·show Act.put _ (some 6) _ = _
               simp only [Act.put, s1, s2, s3, i64_w, i32_w]
               rfl
              exact norm_ (by first | (simp only [putAll, Act.put, s1, s2, s3]; done) | (simp only [putAll, Act.put, s1, s2, s3]; rfl)) (hJ1_5 (gb223) _ ⟨hHeld, BK212.out, BK213.out, BK223.out, GW223.out, GE223.out, NB212_223.out, NB223_212.out, NB213_223.out, NB223_213.out, (by with_reducible repeat first | exact HB.out | apply ba | apply bn | apply bd | refine bs ?_ GE212.out | refine bs ?_ GE213.out | refine bs ?_ GE223.out)⟩)
           ·skip
            rintro ⟨gb222, gb223⟩ w23 ⟨hS_, h0_, h1_, h2_, h3_, h4_, h5_, h6_, h7_, h8_, h9_, h10_, h11_, h12_, h13_, h14_, h15_, h16_, h17_, h18_⟩
            have n0_ : Aside0 (w23.heap[gb212]? = some (.cells #[.int .i64 a0_0, .int .i64 a0_1] 23 (0, 0))) := ⟨h0_⟩
            have n1_ : Aside0 (w23.heap[gb213]? = some (.cells #[.int .i64 a1_0, .int .i64 a1_1] 23 (0, 0))) := ⟨h1_⟩
            have n2_ : Aside0 (w23.heap[gb222]? = some (.cells #[.int .i64 0, .int .i64 0, .int .i64 0] 48 (0, 0))) := ⟨h2_⟩
            have n3_ : Aside0 (w23.heap[gb223]? = some (.cells #[.int .i64 0, .int .i64 0, .int .i64 0] 48 (0, 0))) := ⟨h3_⟩
            have n4_ : Aside0 (w.heap.size ≤ gb222) := ⟨h4_⟩
            have n5_ : Aside0 (w.heap.size ≤ gb222) := ⟨h5_⟩
            have n6_ : Aside0 (gb212 ≠ gb222) := ⟨h6_⟩
            have n7_ : Aside0 (gb222 ≠ gb212) := ⟨h7_⟩
            have n8_ : Aside0 (gb213 ≠ gb222) := ⟨h8_⟩
            have n9_ : Aside0 (gb222 ≠ gb213) := ⟨h9_⟩
            have n10_ : Aside0 (gb223 ≠ gb222) := ⟨h10_⟩
            have n11_ : Aside0 (gb222 ≠ gb223) := ⟨h11_⟩
            have n12_ : Aside0 (w.heap.size ≤ gb223) := ⟨h12_⟩
            have n13_ : Aside0 (w.heap.size ≤ gb223) := ⟨h13_⟩
            have n14_ : Aside0 (gb212 ≠ gb223) := ⟨h14_⟩
            have n15_ : Aside0 (gb223 ≠ gb212) := ⟨h15_⟩
            have n16_ : Aside0 (gb213 ≠ gb223) := ⟨h16_⟩
            have n17_ : Aside0 (gb223 ≠ gb213) := ⟨h17_⟩
            have n18_ : Aside0 (Below w.heap.size w w23) := ⟨h18_⟩
            clear BK212
            clear BK213
            clear HB
            clear h0_ h1_ h2_ h3_ h4_ h5_ h6_ h7_ h8_ h9_ h10_ h11_ h12_ h13_ h14_ h15_ h16_ h17_ h18_
            have BK212 := n0_
            have BK213 := n1_
            have BK222 := n2_
            have BK223 := n3_
            have GW222 := n4_
            have GE222 := n5_
            have NB212_222 := n6_
            have NB222_212 := n7_
            have NB213_222 := n8_
            have NB222_213 := n9_
            have NB223_222 := n10_
            have NB222_223 := n11_
            have GW223 := n12_
            have GE223 := n13_
            have NB212_223 := n14_
            have NB223_212 := n15_
            have NB213_223 := n16_
            have NB223_213 := n17_
            have HB := n18_
            clear n0_ n1_ n2_ n3_ n4_ n5_ n6_ n7_ n8_ n9_ n10_ n11_ n12_ n13_ n14_ n15_ n16_ n17_ n18_
            have hHeld : w23.cell? ⟨gb212, 0, none⟩ = some (.int .i64 a0_0) ∧ w23.cell? ⟨gb212, 1, none⟩ = some (.int .i64 a0_1) ∧ w23.cell? ⟨gb213, 0, none⟩ = some (.int .i64 a1_0) ∧ w23.cell? ⟨gb213, 1, none⟩ = some (.int .i64 a1_1) := hS_
            refine norm_ (a' := ?_) ?_ ?_
            rotate_left
            ·simp only [putAll, Act.put, s1, s2, s3]
             rfl
            refine one_ (i := 1) (N := some 18) #[true, true, true, false, true, true, false, false] rfl rfl (one_of HT_.out (by kernel_rfl)) (by decide) (fun K hK => ?_)
            refine goes_ Try.func28 (by kernel_rfl) rfl #[.agg #[.int .i64 a0_0, .int .i64 a0_1]] (by rfl) rfl rfl (by (try simp only [List.map_toArray, List.map_cons, List.map_nil]); first | done | rfl | (simp only [List.length_drop, List.length_take]; rfl)) ?_
            with_reducible refine (sphere_vector.calls kj2 a0_0 a0_1 t216 t217 t218 _ A18.out).mono ?_
            rintro e w24 ⟨rfl, hb⟩
            refine ⟨_, rfl, ?_⟩
            have n0_ := Aside0.mk (blk_below (g := gb212) (o := .cells #[.int .i64 a0_0, .int .i64 a0_1] 23 (0, 0)) BK212.out hb)
            have n1_ := Aside0.mk (blk_below (g := gb213) (o := .cells #[.int .i64 a1_0, .int .i64 a1_1] 23 (0, 0)) BK213.out hb)
            have n2_ := Aside0.mk (blk_below (g := gb222) (o := .cells #[.int .i64 0, .int .i64 0, .int .i64 0] 48 (0, 0)) BK222.out hb)
            have n3_ := Aside0.mk (blk_below (g := gb223) (o := .cells #[.int .i64 0, .int .i64 0, .int .i64 0] 48 (0, 0)) BK223.out hb)
            have n4_ := Aside0.mk (below_step (by with_reducible repeat first | exact HB.out | apply ba | apply bn | apply bd | refine bs ?_ GE212.out | refine bs ?_ GE213.out | refine bs ?_ GE222.out | refine bs ?_ GE223.out) hb)
            clear BK212
            clear BK213
            clear BK222
            clear BK223
            clear HB
            have BK212 := n0_
            have BK213 := n1_
            have BK222 := n2_
            have BK223 := n3_
            have HB := n4_
            clear n0_ n1_ n2_ n3_ n4_
            (try clear hb)
            (try clear hb2)
            (try clear hk)
            (try clear hi)
            refine hK.out _ _ ⟨(blk_cell BK212.out 0).trans rfl, (blk_cell BK212.out 1).trans rfl, (blk_cell BK213.out 0).trans rfl, (blk_cell BK213.out 1).trans rfl⟩ (fun hHeld => ?_)
            clear hK K
            refine norm_ (a' := ?_) ?_ ?_
            rotate_left
            ·show Act.put _ (some 18) _ = _
             simp only [Act.put, s1, s2, s3, i64_w, i32_w]
             rfl
            exact norm_ (by first | (simp only [putAll, Act.put, s1, s2, s3]; done) | (simp only [putAll, Act.put, s1, s2, s3]; rfl)) (hJ1_4_5 (gb222, gb223) _ ⟨hHeld, BK212.out, BK213.out, BK222.out, BK223.out, GW222.out, GE222.out, NB212_222.out, NB222_212.out, NB213_222.out, NB222_213.out, NB223_222.out, NB222_223.out, GW223.out, GE223.out, NB212_223.out, NB223_212.out, NB213_223.out, NB223_213.out, (by with_reducible repeat first | exact HB.out | apply ba | apply bn | apply bd | refine bs ?_ GE212.out | refine bs ?_ GE213.out | refine bs ?_ GE222.out | refine bs ?_ GE223.out)⟩)
          ·skip
           rintro gb223 w23 ⟨hS_, h0_, h1_, h2_, h3_, h4_, h5_, h6_, h7_, h8_, h9_⟩
           have n0_ : Aside0 (w23.heap[gb212]? = some (.cells #[.int .i64 a0_0, .int .i64 a0_1] 23 (0, 0))) := ⟨h0_⟩
           have n1_ : Aside0 (w23.heap[gb213]? = some (.cells #[.int .i64 a1_0, .int .i64 a1_1] 23 (0, 0))) := ⟨h1_⟩
           have n2_ : Aside0 (w23.heap[gb223]? = some (.cells #[.int .i64 0, .int .i64 0, .int .i64 0] 48 (0, 0))) := ⟨h2_⟩
           have n3_ : Aside0 (w.heap.size ≤ gb223) := ⟨h3_⟩
           have n4_ : Aside0 (w.heap.size ≤ gb223) := ⟨h4_⟩
           have n5_ : Aside0 (gb212 ≠ gb223) := ⟨h5_⟩
           have n6_ : Aside0 (gb223 ≠ gb212) := ⟨h6_⟩
           have n7_ : Aside0 (gb213 ≠ gb223) := ⟨h7_⟩
           have n8_ : Aside0 (gb223 ≠ gb213) := ⟨h8_⟩
           have n9_ : Aside0 (Below w.heap.size w w23) := ⟨h9_⟩
           clear BK212
           clear BK213
           clear HB
           clear h0_ h1_ h2_ h3_ h4_ h5_ h6_ h7_ h8_ h9_
           have BK212 := n0_
           have BK213 := n1_
           have BK223 := n2_
           have GW223 := n3_
           have GE223 := n4_
           have NB212_223 := n5_
           have NB223_212 := n6_
           have NB213_223 := n7_
           have NB223_213 := n8_
           have HB := n9_
           clear n0_ n1_ n2_ n3_ n4_ n5_ n6_ n7_ n8_ n9_
           have hHeld : w23.cell? ⟨gb212, 0, none⟩ = some (.int .i64 a0_0) ∧ w23.cell? ⟨gb212, 1, none⟩ = some (.int .i64 a0_1) ∧ w23.cell? ⟨gb213, 0, none⟩ = some (.int .i64 a1_0) ∧ w23.cell? ⟨gb213, 1, none⟩ = some (.int .i64 a1_1) := hS_
           refine norm_ (a' := ?_) ?_ ?_
           rotate_left
           ·simp only [putAll, Act.put, s1, s2, s3]
            rfl
           refine two_ (i := 3) (j := 4) (Ni := some 20) (Nj := some 5) #[true, true, true, true, false, true, false, false] #[true, true, true, false, true, true, false, false] rfl rfl rfl rfl (two_of HT_.out (by kernel_rfl)) (by decide) (by decide) (fun K hK => ?_) (fun K hK => ?_)
           ·skip
            refine goes_ Try.func28 (by kernel_rfl) rfl #[.agg #[.int .i64 a1_0, .int .i64 a1_1]] (by rfl) rfl rfl (by (try simp only [List.map_toArray, List.map_cons, List.map_nil]); first | done | rfl | (simp only [List.length_drop, List.length_take]; rfl)) ?_
            with_reducible refine (sphere_vector.calls kj2 a1_0 a1_1 t219 t220 t221 _ A19.out).mono ?_
            rintro e w24 ⟨rfl, hb⟩
            refine ⟨_, rfl, ?_⟩
            have n0_ := Aside0.mk (blk_below (g := gb212) (o := .cells #[.int .i64 a0_0, .int .i64 a0_1] 23 (0, 0)) BK212.out hb)
            have n1_ := Aside0.mk (blk_below (g := gb213) (o := .cells #[.int .i64 a1_0, .int .i64 a1_1] 23 (0, 0)) BK213.out hb)
            have n2_ := Aside0.mk (blk_below (g := gb223) (o := .cells #[.int .i64 0, .int .i64 0, .int .i64 0] 48 (0, 0)) BK223.out hb)
            have n3_ := Aside0.mk (below_step (by with_reducible repeat first | exact HB.out | apply ba | apply bn | apply bd | refine bs ?_ GE212.out | refine bs ?_ GE213.out | refine bs ?_ GE223.out) hb)
            clear BK212
            clear BK213
            clear BK223
            clear HB
            have BK212 := n0_
            have BK213 := n1_
            have BK223 := n2_
            have HB := n3_
            clear n0_ n1_ n2_ n3_
            (try clear hb)
            (try clear hb2)
            (try clear hk)
            (try clear hi)
            refine hK.out _ _ ⟨(blk_cell BK212.out 0).trans rfl, (blk_cell BK212.out 1).trans rfl, (blk_cell BK213.out 0).trans rfl, (blk_cell BK213.out 1).trans rfl⟩ (fun hHeld => ?_)
            clear hK K
            refine norm_ (a' := ?_) ?_ ?_
            rotate_left
            ·show Act.put _ (some 20) _ = _
             simp only [Act.put, s1, s2, s3, i64_w, i32_w]
             rfl
            exact norm_ (by first | (simp only [putAll, Act.put, s1, s2, s3]; done) | (simp only [putAll, Act.put, s1, s2, s3]; rfl)) (hJ1_3_5 (gb223) _ ⟨hHeld, BK212.out, BK213.out, BK223.out, GW223.out, GE223.out, NB212_223.out, NB223_212.out, NB213_223.out, NB223_213.out, (by with_reducible repeat first | exact HB.out | apply ba | apply bn | apply bd | refine bs ?_ GE212.out | refine bs ?_ GE213.out | refine bs ?_ GE223.out)⟩)
           ·skip
            refine box_step ?hg (N := 5) ?hd (cs := #[.int .i64 0, .int .i64 0, .int .i64 0]) (t := 48) ?hr ?_; (case hd => rfl); (case hg => rfl); (case hr => first | (go_simp; done) | (go_simp; rfl))
            intro gb222 hg w24 hbox hb
            have n0_ := Aside0.mk (blk_below (g := gb212) (o := .cells #[.int .i64 a0_0, .int .i64 a0_1] 23 (0, 0)) BK212.out hb)
            have n1_ := Aside0.mk (blk_below (g := gb213) (o := .cells #[.int .i64 a1_0, .int .i64 a1_1] 23 (0, 0)) BK213.out hb)
            have n2_ := Aside0.mk (blk_below (g := gb223) (o := .cells #[.int .i64 0, .int .i64 0, .int .i64 0] 48 (0, 0)) BK223.out hb)
            have n3_ := Aside0.mk (below_step (by with_reducible repeat first | exact HB.out | apply ba | apply bn | apply bd | refine bs ?_ GE212.out | refine bs ?_ GE213.out | refine bs ?_ GE223.out) hb)
            have n4_ := Aside0.mk (hbox)
            have n5_ := Aside0.mk ((by rw [hg]; exact (below_size (by with_reducible repeat first | exact HB.out | apply ba | apply bn | apply bd | refine bs ?_ GE212.out | refine bs ?_ GE213.out | refine bs ?_ GE223.out)) : w.heap.size ≤ gb222))
            have n6_ := Aside0.mk ((by rw [hg]; exact (below_size (by with_reducible repeat first | exact HB.out | apply ba | apply bn | apply bd | refine bs ?_ GE212.out | refine bs ?_ GE213.out | refine bs ?_ GE223.out)) : w.heap.size ≤ gb222))
            have n7_ := Aside0.mk ((by rw [hg]; exact Nat.ne_of_lt (blk_lt (g := gb212) (o := .cells #[.int .i64 a0_0, .int .i64 a0_1] 23 (0, 0)) BK212.out) : gb212 ≠ gb222))
            have n8_ := Aside0.mk ((by rw [hg]; exact Nat.ne_of_gt (blk_lt (g := gb212) (o := .cells #[.int .i64 a0_0, .int .i64 a0_1] 23 (0, 0)) BK212.out) : gb222 ≠ gb212))
            have n9_ := Aside0.mk ((by rw [hg]; exact Nat.ne_of_lt (blk_lt (g := gb213) (o := .cells #[.int .i64 a1_0, .int .i64 a1_1] 23 (0, 0)) BK213.out) : gb213 ≠ gb222))
            have n10_ := Aside0.mk ((by rw [hg]; exact Nat.ne_of_gt (blk_lt (g := gb213) (o := .cells #[.int .i64 a1_0, .int .i64 a1_1] 23 (0, 0)) BK213.out) : gb222 ≠ gb213))
            have n11_ := Aside0.mk ((by rw [hg]; exact Nat.ne_of_lt (blk_lt (g := gb223) (o := .cells #[.int .i64 0, .int .i64 0, .int .i64 0] 48 (0, 0)) BK223.out) : gb223 ≠ gb222))
            have n12_ := Aside0.mk ((by rw [hg]; exact Nat.ne_of_gt (blk_lt (g := gb223) (o := .cells #[.int .i64 0, .int .i64 0, .int .i64 0] 48 (0, 0)) BK223.out) : gb222 ≠ gb223))
            clear BK212
            clear BK213
            clear BK223
            clear HB
            have BK212 := n0_
            have BK213 := n1_
            have BK223 := n2_
            have HB := n3_
            have BK222 := n4_
            have GW222 := n5_
            have GE222 := n6_
            have NB212_222 := n7_
            have NB222_212 := n8_
            have NB213_222 := n9_
            have NB222_213 := n10_
            have NB223_222 := n11_
            have NB222_223 := n12_
            clear n0_ n1_ n2_ n3_ n4_ n5_ n6_ n7_ n8_ n9_ n10_ n11_ n12_
            clear hb hbox hg
            refine hK.out _ _ ⟨(blk_cell BK212.out 0).trans rfl, (blk_cell BK212.out 1).trans rfl, (blk_cell BK213.out 0).trans rfl, (blk_cell BK213.out 1).trans rfl⟩ (fun hHeld => ?_)
            clear hK K
            refine norm_ (a' := ?_) ?_ ?_
            rotate_left
            ·show Act.put _ (some 5) _ = _
             simp only [Act.put, s1, s2, s3, i64_w, i32_w]
             rfl
            exact norm_ (by first | (simp only [putAll, Act.put, s1, s2, s3]; done) | (simp only [putAll, Act.put, s1, s2, s3]; rfl)) (hJ1_4_5 (gb222, gb223) _ ⟨hHeld, BK212.out, BK213.out, BK222.out, BK223.out, GW222.out, GE222.out, NB212_222.out, NB222_212.out, NB213_222.out, NB222_213.out, NB223_222.out, NB222_223.out, GW223.out, GE223.out, NB212_223.out, NB223_212.out, NB213_223.out, NB223_213.out, (by with_reducible repeat first | exact HB.out | apply ba | apply bn | apply bd | refine bs ?_ GE212.out | refine bs ?_ GE213.out | refine bs ?_ GE223.out | refine bs ?_ GE222.out)⟩)
         ·skip
          rintro gb222 w23 ⟨hS_, h0_, h1_, h2_, h3_, h4_, h5_, h6_, h7_, h8_, h9_⟩
          have n0_ : Aside0 (w23.heap[gb212]? = some (.cells #[.int .i64 a0_0, .int .i64 a0_1] 23 (0, 0))) := ⟨h0_⟩
          have n1_ : Aside0 (w23.heap[gb213]? = some (.cells #[.int .i64 a1_0, .int .i64 a1_1] 23 (0, 0))) := ⟨h1_⟩
          have n2_ : Aside0 (w23.heap[gb222]? = some (.cells #[.int .i64 0, .int .i64 0, .int .i64 0] 48 (0, 0))) := ⟨h2_⟩
          have n3_ : Aside0 (w.heap.size ≤ gb222) := ⟨h3_⟩
          have n4_ : Aside0 (w.heap.size ≤ gb222) := ⟨h4_⟩
          have n5_ : Aside0 (gb212 ≠ gb222) := ⟨h5_⟩
          have n6_ : Aside0 (gb222 ≠ gb212) := ⟨h6_⟩
          have n7_ : Aside0 (gb213 ≠ gb222) := ⟨h7_⟩
          have n8_ : Aside0 (gb222 ≠ gb213) := ⟨h8_⟩
          have n9_ : Aside0 (Below w.heap.size w w23) := ⟨h9_⟩
          clear BK212
          clear BK213
          clear HB
          clear h0_ h1_ h2_ h3_ h4_ h5_ h6_ h7_ h8_ h9_
          have BK212 := n0_
          have BK213 := n1_
          have BK222 := n2_
          have GW222 := n3_
          have GE222 := n4_
          have NB212_222 := n5_
          have NB222_212 := n6_
          have NB213_222 := n7_
          have NB222_213 := n8_
          have HB := n9_
          clear n0_ n1_ n2_ n3_ n4_ n5_ n6_ n7_ n8_ n9_
          have hHeld : w23.cell? ⟨gb212, 0, none⟩ = some (.int .i64 a0_0) ∧ w23.cell? ⟨gb212, 1, none⟩ = some (.int .i64 a0_1) ∧ w23.cell? ⟨gb213, 0, none⟩ = some (.int .i64 a1_0) ∧ w23.cell? ⟨gb213, 1, none⟩ = some (.int .i64 a1_1) := hS_
          refine norm_ (a' := ?_) ?_ ?_
          rotate_left
          ·simp only [putAll, Act.put, s1, s2, s3]
           rfl
          refine two_ (i := 3) (j := 5) (Ni := some 20) (Nj := some 6) #[true, true, true, true, true, false, false, false] #[true, true, true, false, true, true, false, false] rfl rfl rfl rfl (two_of HT_.out (by kernel_rfl)) (by decide) (by decide) (fun K hK => ?_) (fun K hK => ?_)
          ·skip
           refine goes_ Try.func28 (by kernel_rfl) rfl #[.agg #[.int .i64 a1_0, .int .i64 a1_1]] (by rfl) rfl rfl (by (try simp only [List.map_toArray, List.map_cons, List.map_nil]); first | done | rfl | (simp only [List.length_drop, List.length_take]; rfl)) ?_
           with_reducible refine (sphere_vector.calls kj2 a1_0 a1_1 t219 t220 t221 _ A19.out).mono ?_
           rintro e w24 ⟨rfl, hb⟩
           refine ⟨_, rfl, ?_⟩
           have n0_ := Aside0.mk (blk_below (g := gb212) (o := .cells #[.int .i64 a0_0, .int .i64 a0_1] 23 (0, 0)) BK212.out hb)
           have n1_ := Aside0.mk (blk_below (g := gb213) (o := .cells #[.int .i64 a1_0, .int .i64 a1_1] 23 (0, 0)) BK213.out hb)
           have n2_ := Aside0.mk (blk_below (g := gb222) (o := .cells #[.int .i64 0, .int .i64 0, .int .i64 0] 48 (0, 0)) BK222.out hb)
           have n3_ := Aside0.mk (below_step (by with_reducible repeat first | exact HB.out | apply ba | apply bn | apply bd | refine bs ?_ GE212.out | refine bs ?_ GE213.out | refine bs ?_ GE222.out) hb)
           clear BK212
           clear BK213
           clear BK222
           clear HB
           have BK212 := n0_
           have BK213 := n1_
           have BK222 := n2_
           have HB := n3_
           clear n0_ n1_ n2_ n3_
           (try clear hb)
           (try clear hb2)
           (try clear hk)
           (try clear hi)
           refine hK.out _ _ ⟨(blk_cell BK212.out 0).trans rfl, (blk_cell BK212.out 1).trans rfl, (blk_cell BK213.out 0).trans rfl, (blk_cell BK213.out 1).trans rfl⟩ (fun hHeld => ?_)
           clear hK K
           refine norm_ (a' := ?_) ?_ ?_
           rotate_left
           ·show Act.put _ (some 20) _ = _
            simp only [Act.put, s1, s2, s3, i64_w, i32_w]
            rfl
           exact norm_ (by first | (simp only [putAll, Act.put, s1, s2, s3]; done) | (simp only [putAll, Act.put, s1, s2, s3]; rfl)) (hJ1_3_4 (gb222) _ ⟨hHeld, BK212.out, BK213.out, BK222.out, GW222.out, GE222.out, NB212_222.out, NB222_212.out, NB213_222.out, NB222_213.out, (by with_reducible repeat first | exact HB.out | apply ba | apply bn | apply bd | refine bs ?_ GE212.out | refine bs ?_ GE213.out | refine bs ?_ GE222.out)⟩)
          ·skip
           refine box_step ?hg (N := 6) ?hd (cs := #[.int .i64 0, .int .i64 0, .int .i64 0]) (t := 48) ?hr ?_; (case hd => rfl); (case hg => rfl); (case hr => first | (go_simp; done) | (go_simp; rfl))
           intro gb223 hg w24 hbox hb
           have n0_ := Aside0.mk (blk_below (g := gb212) (o := .cells #[.int .i64 a0_0, .int .i64 a0_1] 23 (0, 0)) BK212.out hb)
           have n1_ := Aside0.mk (blk_below (g := gb213) (o := .cells #[.int .i64 a1_0, .int .i64 a1_1] 23 (0, 0)) BK213.out hb)
           have n2_ := Aside0.mk (blk_below (g := gb222) (o := .cells #[.int .i64 0, .int .i64 0, .int .i64 0] 48 (0, 0)) BK222.out hb)
           have n3_ := Aside0.mk (below_step (by with_reducible repeat first | exact HB.out | apply ba | apply bn | apply bd | refine bs ?_ GE212.out | refine bs ?_ GE213.out | refine bs ?_ GE222.out) hb)
           have n4_ := Aside0.mk (hbox)
           have n5_ := Aside0.mk ((by rw [hg]; exact (below_size (by with_reducible repeat first | exact HB.out | apply ba | apply bn | apply bd | refine bs ?_ GE212.out | refine bs ?_ GE213.out | refine bs ?_ GE222.out)) : w.heap.size ≤ gb223))
           have n6_ := Aside0.mk ((by rw [hg]; exact (below_size (by with_reducible repeat first | exact HB.out | apply ba | apply bn | apply bd | refine bs ?_ GE212.out | refine bs ?_ GE213.out | refine bs ?_ GE222.out)) : w.heap.size ≤ gb223))
           have n7_ := Aside0.mk ((by rw [hg]; exact Nat.ne_of_lt (blk_lt (g := gb212) (o := .cells #[.int .i64 a0_0, .int .i64 a0_1] 23 (0, 0)) BK212.out) : gb212 ≠ gb223))
           have n8_ := Aside0.mk ((by rw [hg]; exact Nat.ne_of_gt (blk_lt (g := gb212) (o := .cells #[.int .i64 a0_0, .int .i64 a0_1] 23 (0, 0)) BK212.out) : gb223 ≠ gb212))
           have n9_ := Aside0.mk ((by rw [hg]; exact Nat.ne_of_lt (blk_lt (g := gb213) (o := .cells #[.int .i64 a1_0, .int .i64 a1_1] 23 (0, 0)) BK213.out) : gb213 ≠ gb223))
           have n10_ := Aside0.mk ((by rw [hg]; exact Nat.ne_of_gt (blk_lt (g := gb213) (o := .cells #[.int .i64 a1_0, .int .i64 a1_1] 23 (0, 0)) BK213.out) : gb223 ≠ gb213))
           have n11_ := Aside0.mk ((by rw [hg]; exact Nat.ne_of_lt (blk_lt (g := gb222) (o := .cells #[.int .i64 0, .int .i64 0, .int .i64 0] 48 (0, 0)) BK222.out) : gb222 ≠ gb223))
           have n12_ := Aside0.mk ((by rw [hg]; exact Nat.ne_of_gt (blk_lt (g := gb222) (o := .cells #[.int .i64 0, .int .i64 0, .int .i64 0] 48 (0, 0)) BK222.out) : gb223 ≠ gb222))
           clear BK212
           clear BK213
           clear BK222
           clear HB
           have BK212 := n0_
           have BK213 := n1_
           have BK222 := n2_
           have HB := n3_
           have BK223 := n4_
           have GW223 := n5_
           have GE223 := n6_
           have NB212_223 := n7_
           have NB223_212 := n8_
           have NB213_223 := n9_
           have NB223_213 := n10_
           have NB222_223 := n11_
           have NB223_222 := n12_
           clear n0_ n1_ n2_ n3_ n4_ n5_ n6_ n7_ n8_ n9_ n10_ n11_ n12_
           clear hb hbox hg
           refine hK.out _ _ ⟨(blk_cell BK212.out 0).trans rfl, (blk_cell BK212.out 1).trans rfl, (blk_cell BK213.out 0).trans rfl, (blk_cell BK213.out 1).trans rfl⟩ (fun hHeld => ?_)
           clear hK K
           refine norm_ (a' := ?_) ?_ ?_
           rotate_left
           ·show Act.put _ (some 6) _ = _
            simp only [Act.put, s1, s2, s3, i64_w, i32_w]
            rfl
           exact norm_ (by first | (simp only [putAll, Act.put, s1, s2, s3]; done) | (simp only [putAll, Act.put, s1, s2, s3]; rfl)) (hJ1_4_5 (gb222, gb223) _ ⟨hHeld, BK212.out, BK213.out, BK222.out, BK223.out, GW222.out, GE222.out, NB212_222.out, NB222_212.out, NB213_222.out, NB222_213.out, NB223_222.out, NB222_223.out, GW223.out, GE223.out, NB212_223.out, NB223_212.out, NB213_223.out, NB223_213.out, (by with_reducible repeat first | exact HB.out | apply ba | apply bn | apply bd | refine bs ?_ GE212.out | refine bs ?_ GE213.out | refine bs ?_ GE222.out | refine bs ?_ GE223.out)⟩)
        ·skip
         rintro _ w23 ⟨hS_, h0_, h1_, h2_⟩
         have n0_ : Aside0 (w23.heap[gb212]? = some (.cells #[.int .i64 a0_0, .int .i64 a0_1] 23 (0, 0))) := ⟨h0_⟩
         have n1_ : Aside0 (w23.heap[gb213]? = some (.cells #[.int .i64 a1_0, .int .i64 a1_1] 23 (0, 0))) := ⟨h1_⟩
         have n2_ : Aside0 (Below w.heap.size w w23) := ⟨h2_⟩
         clear BK212
         clear BK213
         clear HB
         clear h0_ h1_ h2_
         have BK212 := n0_
         have BK213 := n1_
         have HB := n2_
         clear n0_ n1_ n2_
         have hHeld : w23.cell? ⟨gb212, 0, none⟩ = some (.int .i64 a0_0) ∧ w23.cell? ⟨gb212, 1, none⟩ = some (.int .i64 a0_1) ∧ w23.cell? ⟨gb213, 0, none⟩ = some (.int .i64 a1_0) ∧ w23.cell? ⟨gb213, 1, none⟩ = some (.int .i64 a1_1) := hS_
         refine norm_ (a' := ?_) ?_ ?_
         rotate_left
         ·simp only [putAll, Act.put, s1, s2, s3]
          rfl
         refine two_ (i := 4) (j := 5) (Ni := some 5) (Nj := some 6) #[true, true, true, true, true, false, false, false] #[true, true, true, true, false, true, false, false] rfl rfl rfl rfl (two_of HT_.out (by kernel_rfl)) (by decide) (by decide) (fun K hK => ?_) (fun K hK => ?_)
         ·skip
          refine box_step ?hg (N := 5) ?hd (cs := #[.int .i64 0, .int .i64 0, .int .i64 0]) (t := 48) ?hr ?_; (case hd => rfl); (case hg => rfl); (case hr => first | (go_simp; done) | (go_simp; rfl))
          intro gb222 hg w24 hbox hb
          have n0_ := Aside0.mk (blk_below (g := gb212) (o := .cells #[.int .i64 a0_0, .int .i64 a0_1] 23 (0, 0)) BK212.out hb)
          have n1_ := Aside0.mk (blk_below (g := gb213) (o := .cells #[.int .i64 a1_0, .int .i64 a1_1] 23 (0, 0)) BK213.out hb)
          have n2_ := Aside0.mk (below_step (by with_reducible repeat first | exact HB.out | apply ba | apply bn | apply bd | refine bs ?_ GE212.out | refine bs ?_ GE213.out) hb)
          have n3_ := Aside0.mk (hbox)
          have n4_ := Aside0.mk ((by rw [hg]; exact (below_size (by with_reducible repeat first | exact HB.out | apply ba | apply bn | apply bd | refine bs ?_ GE212.out | refine bs ?_ GE213.out)) : w.heap.size ≤ gb222))
          have n5_ := Aside0.mk ((by rw [hg]; exact (below_size (by with_reducible repeat first | exact HB.out | apply ba | apply bn | apply bd | refine bs ?_ GE212.out | refine bs ?_ GE213.out)) : w.heap.size ≤ gb222))
          have n6_ := Aside0.mk ((by rw [hg]; exact Nat.ne_of_lt (blk_lt (g := gb212) (o := .cells #[.int .i64 a0_0, .int .i64 a0_1] 23 (0, 0)) BK212.out) : gb212 ≠ gb222))
          have n7_ := Aside0.mk ((by rw [hg]; exact Nat.ne_of_gt (blk_lt (g := gb212) (o := .cells #[.int .i64 a0_0, .int .i64 a0_1] 23 (0, 0)) BK212.out) : gb222 ≠ gb212))
          have n8_ := Aside0.mk ((by rw [hg]; exact Nat.ne_of_lt (blk_lt (g := gb213) (o := .cells #[.int .i64 a1_0, .int .i64 a1_1] 23 (0, 0)) BK213.out) : gb213 ≠ gb222))
          have n9_ := Aside0.mk ((by rw [hg]; exact Nat.ne_of_gt (blk_lt (g := gb213) (o := .cells #[.int .i64 a1_0, .int .i64 a1_1] 23 (0, 0)) BK213.out) : gb222 ≠ gb213))
          clear BK212
          clear BK213
          clear HB
          have BK212 := n0_
          have BK213 := n1_
          have HB := n2_
          have BK222 := n3_
          have GW222 := n4_
          have GE222 := n5_
          have NB212_222 := n6_
          have NB222_212 := n7_
          have NB213_222 := n8_
          have NB222_213 := n9_
          clear n0_ n1_ n2_ n3_ n4_ n5_ n6_ n7_ n8_ n9_
          clear hb hbox hg
          refine hK.out _ _ ⟨(blk_cell BK212.out 0).trans rfl, (blk_cell BK212.out 1).trans rfl, (blk_cell BK213.out 0).trans rfl, (blk_cell BK213.out 1).trans rfl⟩ (fun hHeld => ?_)
          clear hK K
          refine norm_ (a' := ?_) ?_ ?_
          rotate_left
          ·show Act.put _ (some 5) _ = _
           simp only [Act.put, s1, s2, s3, i64_w, i32_w]
           rfl
          exact norm_ (by first | (simp only [putAll, Act.put, s1, s2, s3]; done) | (simp only [putAll, Act.put, s1, s2, s3]; rfl)) (hJ1_3_4 (gb222) _ ⟨hHeld, BK212.out, BK213.out, BK222.out, GW222.out, GE222.out, NB212_222.out, NB222_212.out, NB213_222.out, NB222_213.out, (by with_reducible repeat first | exact HB.out | apply ba | apply bn | apply bd | refine bs ?_ GE212.out | refine bs ?_ GE213.out | refine bs ?_ GE222.out)⟩)
         ·skip
          refine box_step ?hg (N := 6) ?hd (cs := #[.int .i64 0, .int .i64 0, .int .i64 0]) (t := 48) ?hr ?_; (case hd => rfl); (case hg => rfl); (case hr => first | (go_simp; done) | (go_simp; rfl))
          intro gb223 hg w24 hbox hb
          have n0_ := Aside0.mk (blk_below (g := gb212) (o := .cells #[.int .i64 a0_0, .int .i64 a0_1] 23 (0, 0)) BK212.out hb)
          have n1_ := Aside0.mk (blk_below (g := gb213) (o := .cells #[.int .i64 a1_0, .int .i64 a1_1] 23 (0, 0)) BK213.out hb)
          have n2_ := Aside0.mk (below_step (by with_reducible repeat first | exact HB.out | apply ba | apply bn | apply bd | refine bs ?_ GE212.out | refine bs ?_ GE213.out) hb)
          have n3_ := Aside0.mk (hbox)
          have n4_ := Aside0.mk ((by rw [hg]; exact (below_size (by with_reducible repeat first | exact HB.out | apply ba | apply bn | apply bd | refine bs ?_ GE212.out | refine bs ?_ GE213.out)) : w.heap.size ≤ gb223))
          have n5_ := Aside0.mk ((by rw [hg]; exact (below_size (by with_reducible repeat first | exact HB.out | apply ba | apply bn | apply bd | refine bs ?_ GE212.out | refine bs ?_ GE213.out)) : w.heap.size ≤ gb223))
          have n6_ := Aside0.mk ((by rw [hg]; exact Nat.ne_of_lt (blk_lt (g := gb212) (o := .cells #[.int .i64 a0_0, .int .i64 a0_1] 23 (0, 0)) BK212.out) : gb212 ≠ gb223))
          have n7_ := Aside0.mk ((by rw [hg]; exact Nat.ne_of_gt (blk_lt (g := gb212) (o := .cells #[.int .i64 a0_0, .int .i64 a0_1] 23 (0, 0)) BK212.out) : gb223 ≠ gb212))
          have n8_ := Aside0.mk ((by rw [hg]; exact Nat.ne_of_lt (blk_lt (g := gb213) (o := .cells #[.int .i64 a1_0, .int .i64 a1_1] 23 (0, 0)) BK213.out) : gb213 ≠ gb223))
          have n9_ := Aside0.mk ((by rw [hg]; exact Nat.ne_of_gt (blk_lt (g := gb213) (o := .cells #[.int .i64 a1_0, .int .i64 a1_1] 23 (0, 0)) BK213.out) : gb223 ≠ gb213))
          clear BK212
          clear BK213
          clear HB
          have BK212 := n0_
          have BK213 := n1_
          have HB := n2_
          have BK223 := n3_
          have GW223 := n4_
          have GE223 := n5_
          have NB212_223 := n6_
          have NB223_212 := n7_
          have NB213_223 := n8_
          have NB223_213 := n9_
          clear n0_ n1_ n2_ n3_ n4_ n5_ n6_ n7_ n8_ n9_
          clear hb hbox hg
          refine hK.out _ _ ⟨(blk_cell BK212.out 0).trans rfl, (blk_cell BK212.out 1).trans rfl, (blk_cell BK213.out 0).trans rfl, (blk_cell BK213.out 1).trans rfl⟩ (fun hHeld => ?_)
          clear hK K
          refine norm_ (a' := ?_) ?_ ?_
          rotate_left
          ·show Act.put _ (some 6) _ = _
           simp only [Act.put, s1, s2, s3, i64_w, i32_w]
           rfl
          exact norm_ (by first | (simp only [putAll, Act.put, s1, s2, s3]; done) | (simp only [putAll, Act.put, s1, s2, s3]; rfl)) (hJ1_3_5 (gb223) _ ⟨hHeld, BK212.out, BK213.out, BK223.out, GW223.out, GE223.out, NB212_223.out, NB223_212.out, NB213_223.out, NB223_213.out, (by with_reducible repeat first | exact HB.out | apply ba | apply bn | apply bd | refine bs ?_ GE212.out | refine bs ?_ GE213.out | refine bs ?_ GE223.out)⟩)
       ·skip
        rintro ⟨gb222, gb223⟩ w24 ⟨hS_, h0_, h1_, h2_, h3_, h4_, h5_, h6_, h7_, h8_, h9_, h10_, h11_, h12_, h13_, h14_, h15_, h16_, h17_, h18_⟩
        have n0_ : Aside0 (w24.heap[gb212]? = some (.cells #[.int .i64 a0_0, .int .i64 a0_1] 23 (0, 0))) := ⟨h0_⟩
        have n1_ : Aside0 (w24.heap[gb213]? = some (.cells #[.int .i64 a1_0, .int .i64 a1_1] 23 (0, 0))) := ⟨h1_⟩
        have n2_ : Aside0 (w24.heap[gb222]? = some (.cells #[.int .i64 0, .int .i64 0, .int .i64 0] 48 (0, 0))) := ⟨h2_⟩
        have n3_ : Aside0 (w24.heap[gb223]? = some (.cells #[.int .i64 0, .int .i64 0, .int .i64 0] 48 (0, 0))) := ⟨h3_⟩
        have n4_ : Aside0 (w.heap.size ≤ gb222) := ⟨h4_⟩
        have n5_ : Aside0 (w.heap.size ≤ gb222) := ⟨h5_⟩
        have n6_ : Aside0 (gb212 ≠ gb222) := ⟨h6_⟩
        have n7_ : Aside0 (gb222 ≠ gb212) := ⟨h7_⟩
        have n8_ : Aside0 (gb213 ≠ gb222) := ⟨h8_⟩
        have n9_ : Aside0 (gb222 ≠ gb213) := ⟨h9_⟩
        have n10_ : Aside0 (gb223 ≠ gb222) := ⟨h10_⟩
        have n11_ : Aside0 (gb222 ≠ gb223) := ⟨h11_⟩
        have n12_ : Aside0 (w.heap.size ≤ gb223) := ⟨h12_⟩
        have n13_ : Aside0 (w.heap.size ≤ gb223) := ⟨h13_⟩
        have n14_ : Aside0 (gb212 ≠ gb223) := ⟨h14_⟩
        have n15_ : Aside0 (gb223 ≠ gb212) := ⟨h15_⟩
        have n16_ : Aside0 (gb213 ≠ gb223) := ⟨h16_⟩
        have n17_ : Aside0 (gb223 ≠ gb213) := ⟨h17_⟩
        have n18_ : Aside0 (Below w.heap.size w w24) := ⟨h18_⟩
        clear BK212
        clear BK213
        clear HB
        clear h0_ h1_ h2_ h3_ h4_ h5_ h6_ h7_ h8_ h9_ h10_ h11_ h12_ h13_ h14_ h15_ h16_ h17_ h18_
        have BK212 := n0_
        have BK213 := n1_
        have BK222 := n2_
        have BK223 := n3_
        have GW222 := n4_
        have GE222 := n5_
        have NB212_222 := n6_
        have NB222_212 := n7_
        have NB213_222 := n8_
        have NB222_213 := n9_
        have NB223_222 := n10_
        have NB222_223 := n11_
        have GW223 := n12_
        have GE223 := n13_
        have NB212_223 := n14_
        have NB223_212 := n15_
        have NB213_223 := n16_
        have NB223_213 := n17_
        have HB := n18_
        clear n0_ n1_ n2_ n3_ n4_ n5_ n6_ n7_ n8_ n9_ n10_ n11_ n12_ n13_ n14_ n15_ n16_ n17_ n18_
        have hHeld : w24.cell? ⟨gb212, 0, none⟩ = some (.int .i64 a0_0) ∧ w24.cell? ⟨gb212, 1, none⟩ = some (.int .i64 a0_1) ∧ w24.cell? ⟨gb213, 0, none⟩ = some (.int .i64 a1_0) ∧ w24.cell? ⟨gb213, 1, none⟩ = some (.int .i64 a1_1) := hS_
        refine norm_ (a' := ?_) ?_ ?_
        rotate_left
        ·simp only [putAll, Act.put, s1, s2, s3]
         rfl
        refine one_ (i := 3) (N := some 20) #[true, true, true, true, true, true, false, false] rfl rfl (one_of HT_.out (by kernel_rfl)) (by decide) (fun K hK => ?_)
        refine goes_ Try.func28 (by kernel_rfl) rfl #[.agg #[.int .i64 a1_0, .int .i64 a1_1]] (by rfl) rfl rfl (by (try simp only [List.map_toArray, List.map_cons, List.map_nil]); first | done | rfl | (simp only [List.length_drop, List.length_take]; rfl)) ?_
        with_reducible refine (sphere_vector.calls kj2 a1_0 a1_1 t219 t220 t221 _ A19.out).mono ?_
        rintro e w25 ⟨rfl, hb⟩
        refine ⟨_, rfl, ?_⟩
        have n0_ := Aside0.mk (blk_below (g := gb212) (o := .cells #[.int .i64 a0_0, .int .i64 a0_1] 23 (0, 0)) BK212.out hb)
        have n1_ := Aside0.mk (blk_below (g := gb213) (o := .cells #[.int .i64 a1_0, .int .i64 a1_1] 23 (0, 0)) BK213.out hb)
        have n2_ := Aside0.mk (blk_below (g := gb222) (o := .cells #[.int .i64 0, .int .i64 0, .int .i64 0] 48 (0, 0)) BK222.out hb)
        have n3_ := Aside0.mk (blk_below (g := gb223) (o := .cells #[.int .i64 0, .int .i64 0, .int .i64 0] 48 (0, 0)) BK223.out hb)
        have n4_ := Aside0.mk (below_step (by with_reducible repeat first | exact HB.out | apply ba | apply bn | apply bd | refine bs ?_ GE212.out | refine bs ?_ GE213.out | refine bs ?_ GE222.out | refine bs ?_ GE223.out) hb)
        clear BK212
        clear BK213
        clear BK222
        clear BK223
        clear HB
        have BK212 := n0_
        have BK213 := n1_
        have BK222 := n2_
        have BK223 := n3_
        have HB := n4_
        clear n0_ n1_ n2_ n3_ n4_
        (try clear hb)
        (try clear hb2)
        (try clear hk)
        (try clear hi)
        refine hK.out _ _ ⟨(blk_cell BK212.out 0).trans rfl, (blk_cell BK212.out 1).trans rfl, (blk_cell BK213.out 0).trans rfl, (blk_cell BK213.out 1).trans rfl⟩ (fun hHeld => ?_)
        clear hK K
        refine norm_ (a' := ?_) ?_ ?_
        rotate_left
        ·show Act.put _ (some 20) _ = _
         simp only [Act.put, s1, s2, s3, i64_w, i32_w]
         rfl
        exact norm_ (by first | (simp only [putAll, Act.put, s1, s2, s3]; done) | (simp only [putAll, Act.put, s1, s2, s3]; rfl)) (hJ1_3_4_5 (gb222, gb223) _ ⟨hHeld, BK212.out, BK213.out, BK222.out, BK223.out, GW222.out, GE222.out, NB212_222.out, NB222_212.out, NB213_222.out, NB222_213.out, NB223_222.out, NB222_223.out, GW223.out, GE223.out, NB212_223.out, NB223_212.out, NB213_223.out, NB223_213.out, (by with_reducible repeat first | exact HB.out | apply ba | apply bn | apply bd | refine bs ?_ GE212.out | refine bs ?_ GE213.out | refine bs ?_ GE222.out | refine bs ?_ GE223.out)⟩)
      ·skip
       rintro gb223 w24 ⟨hS_, h0_, h1_, h2_, h3_, h4_, h5_, h6_, h7_, h8_, h9_⟩
       have n0_ : Aside0 (w24.heap[gb212]? = some (.cells #[.int .i64 a0_0, .int .i64 a0_1] 23 (0, 0))) := ⟨h0_⟩
       have n1_ : Aside0 (w24.heap[gb213]? = some (.cells #[.int .i64 a1_0, .int .i64 a1_1] 23 (0, 0))) := ⟨h1_⟩
       have n2_ : Aside0 (w24.heap[gb223]? = some (.cells #[.int .i64 0, .int .i64 0, .int .i64 0] 48 (0, 0))) := ⟨h2_⟩
       have n3_ : Aside0 (w.heap.size ≤ gb223) := ⟨h3_⟩
       have n4_ : Aside0 (w.heap.size ≤ gb223) := ⟨h4_⟩
       have n5_ : Aside0 (gb212 ≠ gb223) := ⟨h5_⟩
       have n6_ : Aside0 (gb223 ≠ gb212) := ⟨h6_⟩
       have n7_ : Aside0 (gb213 ≠ gb223) := ⟨h7_⟩
       have n8_ : Aside0 (gb223 ≠ gb213) := ⟨h8_⟩
       have n9_ : Aside0 (Below w.heap.size w w24) := ⟨h9_⟩
       clear BK212
       clear BK213
       clear HB
       clear h0_ h1_ h2_ h3_ h4_ h5_ h6_ h7_ h8_ h9_
       have BK212 := n0_
       have BK213 := n1_
       have BK223 := n2_
       have GW223 := n3_
       have GE223 := n4_
       have NB212_223 := n5_
       have NB223_212 := n6_
       have NB213_223 := n7_
       have NB223_213 := n8_
       have HB := n9_
       clear n0_ n1_ n2_ n3_ n4_ n5_ n6_ n7_ n8_ n9_
       have hHeld : w24.cell? ⟨gb212, 0, none⟩ = some (.int .i64 a0_0) ∧ w24.cell? ⟨gb212, 1, none⟩ = some (.int .i64 a0_1) ∧ w24.cell? ⟨gb213, 0, none⟩ = some (.int .i64 a1_0) ∧ w24.cell? ⟨gb213, 1, none⟩ = some (.int .i64 a1_1) := hS_
       refine norm_ (a' := ?_) ?_ ?_
       rotate_left
       ·simp only [putAll, Act.put, s1, s2, s3]
        rfl
       refine one_ (i := 4) (N := some 5) #[true, true, true, true, true, true, false, false] rfl rfl (one_of HT_.out (by kernel_rfl)) (by decide) (fun K hK => ?_)
       refine box_step ?hg (N := 5) ?hd (cs := #[.int .i64 0, .int .i64 0, .int .i64 0]) (t := 48) ?hr ?_; (case hd => rfl); (case hg => rfl); (case hr => first | (go_simp; done) | (go_simp; rfl))
       intro gb222 hg w25 hbox hb
       have n0_ := Aside0.mk (blk_below (g := gb212) (o := .cells #[.int .i64 a0_0, .int .i64 a0_1] 23 (0, 0)) BK212.out hb)
       have n1_ := Aside0.mk (blk_below (g := gb213) (o := .cells #[.int .i64 a1_0, .int .i64 a1_1] 23 (0, 0)) BK213.out hb)
       have n2_ := Aside0.mk (blk_below (g := gb223) (o := .cells #[.int .i64 0, .int .i64 0, .int .i64 0] 48 (0, 0)) BK223.out hb)
       have n3_ := Aside0.mk (below_step (by with_reducible repeat first | exact HB.out | apply ba | apply bn | apply bd | refine bs ?_ GE212.out | refine bs ?_ GE213.out | refine bs ?_ GE223.out) hb)
       have n4_ := Aside0.mk (hbox)
       have n5_ := Aside0.mk ((by rw [hg]; exact (below_size (by with_reducible repeat first | exact HB.out | apply ba | apply bn | apply bd | refine bs ?_ GE212.out | refine bs ?_ GE213.out | refine bs ?_ GE223.out)) : w.heap.size ≤ gb222))
       have n6_ := Aside0.mk ((by rw [hg]; exact (below_size (by with_reducible repeat first | exact HB.out | apply ba | apply bn | apply bd | refine bs ?_ GE212.out | refine bs ?_ GE213.out | refine bs ?_ GE223.out)) : w.heap.size ≤ gb222))
       have n7_ := Aside0.mk ((by rw [hg]; exact Nat.ne_of_lt (blk_lt (g := gb212) (o := .cells #[.int .i64 a0_0, .int .i64 a0_1] 23 (0, 0)) BK212.out) : gb212 ≠ gb222))
       have n8_ := Aside0.mk ((by rw [hg]; exact Nat.ne_of_gt (blk_lt (g := gb212) (o := .cells #[.int .i64 a0_0, .int .i64 a0_1] 23 (0, 0)) BK212.out) : gb222 ≠ gb212))
       have n9_ := Aside0.mk ((by rw [hg]; exact Nat.ne_of_lt (blk_lt (g := gb213) (o := .cells #[.int .i64 a1_0, .int .i64 a1_1] 23 (0, 0)) BK213.out) : gb213 ≠ gb222))
       have n10_ := Aside0.mk ((by rw [hg]; exact Nat.ne_of_gt (blk_lt (g := gb213) (o := .cells #[.int .i64 a1_0, .int .i64 a1_1] 23 (0, 0)) BK213.out) : gb222 ≠ gb213))
       have n11_ := Aside0.mk ((by rw [hg]; exact Nat.ne_of_lt (blk_lt (g := gb223) (o := .cells #[.int .i64 0, .int .i64 0, .int .i64 0] 48 (0, 0)) BK223.out) : gb223 ≠ gb222))
       have n12_ := Aside0.mk ((by rw [hg]; exact Nat.ne_of_gt (blk_lt (g := gb223) (o := .cells #[.int .i64 0, .int .i64 0, .int .i64 0] 48 (0, 0)) BK223.out) : gb222 ≠ gb223))
       clear BK212
       clear BK213
       clear BK223
       clear HB
       have BK212 := n0_
       have BK213 := n1_
       have BK223 := n2_
       have HB := n3_
       have BK222 := n4_
       have GW222 := n5_
       have GE222 := n6_
       have NB212_222 := n7_
       have NB222_212 := n8_
       have NB213_222 := n9_
       have NB222_213 := n10_
       have NB223_222 := n11_
       have NB222_223 := n12_
       clear n0_ n1_ n2_ n3_ n4_ n5_ n6_ n7_ n8_ n9_ n10_ n11_ n12_
       clear hb hbox hg
       refine hK.out _ _ ⟨(blk_cell BK212.out 0).trans rfl, (blk_cell BK212.out 1).trans rfl, (blk_cell BK213.out 0).trans rfl, (blk_cell BK213.out 1).trans rfl⟩ (fun hHeld => ?_)
       clear hK K
       refine norm_ (a' := ?_) ?_ ?_
       rotate_left
       ·show Act.put _ (some 5) _ = _
        simp only [Act.put, s1, s2, s3, i64_w, i32_w]
        rfl
       exact norm_ (by first | (simp only [putAll, Act.put, s1, s2, s3]; done) | (simp only [putAll, Act.put, s1, s2, s3]; rfl)) (hJ1_3_4_5 (gb222, gb223) _ ⟨hHeld, BK212.out, BK213.out, BK222.out, BK223.out, GW222.out, GE222.out, NB212_222.out, NB222_212.out, NB213_222.out, NB222_213.out, NB223_222.out, NB222_223.out, GW223.out, GE223.out, NB212_223.out, NB223_212.out, NB213_223.out, NB223_213.out, (by with_reducible repeat first | exact HB.out | apply ba | apply bn | apply bd | refine bs ?_ GE212.out | refine bs ?_ GE213.out | refine bs ?_ GE223.out | refine bs ?_ GE222.out)⟩)
     ·skip
      rintro gb222 w24 ⟨hS_, h0_, h1_, h2_, h3_, h4_, h5_, h6_, h7_, h8_, h9_⟩
      have n0_ : Aside0 (w24.heap[gb212]? = some (.cells #[.int .i64 a0_0, .int .i64 a0_1] 23 (0, 0))) := ⟨h0_⟩
      have n1_ : Aside0 (w24.heap[gb213]? = some (.cells #[.int .i64 a1_0, .int .i64 a1_1] 23 (0, 0))) := ⟨h1_⟩
      have n2_ : Aside0 (w24.heap[gb222]? = some (.cells #[.int .i64 0, .int .i64 0, .int .i64 0] 48 (0, 0))) := ⟨h2_⟩
      have n3_ : Aside0 (w.heap.size ≤ gb222) := ⟨h3_⟩
      have n4_ : Aside0 (w.heap.size ≤ gb222) := ⟨h4_⟩
      have n5_ : Aside0 (gb212 ≠ gb222) := ⟨h5_⟩
      have n6_ : Aside0 (gb222 ≠ gb212) := ⟨h6_⟩
      have n7_ : Aside0 (gb213 ≠ gb222) := ⟨h7_⟩
      have n8_ : Aside0 (gb222 ≠ gb213) := ⟨h8_⟩
      have n9_ : Aside0 (Below w.heap.size w w24) := ⟨h9_⟩
      clear BK212
      clear BK213
      clear HB
      clear h0_ h1_ h2_ h3_ h4_ h5_ h6_ h7_ h8_ h9_
      have BK212 := n0_
      have BK213 := n1_
      have BK222 := n2_
      have GW222 := n3_
      have GE222 := n4_
      have NB212_222 := n5_
      have NB222_212 := n6_
      have NB213_222 := n7_
      have NB222_213 := n8_
      have HB := n9_
      clear n0_ n1_ n2_ n3_ n4_ n5_ n6_ n7_ n8_ n9_
      have hHeld : w24.cell? ⟨gb212, 0, none⟩ = some (.int .i64 a0_0) ∧ w24.cell? ⟨gb212, 1, none⟩ = some (.int .i64 a0_1) ∧ w24.cell? ⟨gb213, 0, none⟩ = some (.int .i64 a1_0) ∧ w24.cell? ⟨gb213, 1, none⟩ = some (.int .i64 a1_1) := hS_
      refine norm_ (a' := ?_) ?_ ?_
      rotate_left
      ·simp only [putAll, Act.put, s1, s2, s3]
       rfl
      refine one_ (i := 5) (N := some 6) #[true, true, true, true, true, true, false, false] rfl rfl (one_of HT_.out (by kernel_rfl)) (by decide) (fun K hK => ?_)
      refine box_step ?hg (N := 6) ?hd (cs := #[.int .i64 0, .int .i64 0, .int .i64 0]) (t := 48) ?hr ?_; (case hd => rfl); (case hg => rfl); (case hr => first | (go_simp; done) | (go_simp; rfl))
      intro gb223 hg w25 hbox hb
      have n0_ := Aside0.mk (blk_below (g := gb212) (o := .cells #[.int .i64 a0_0, .int .i64 a0_1] 23 (0, 0)) BK212.out hb)
      have n1_ := Aside0.mk (blk_below (g := gb213) (o := .cells #[.int .i64 a1_0, .int .i64 a1_1] 23 (0, 0)) BK213.out hb)
      have n2_ := Aside0.mk (blk_below (g := gb222) (o := .cells #[.int .i64 0, .int .i64 0, .int .i64 0] 48 (0, 0)) BK222.out hb)
      have n3_ := Aside0.mk (below_step (by with_reducible repeat first | exact HB.out | apply ba | apply bn | apply bd | refine bs ?_ GE212.out | refine bs ?_ GE213.out | refine bs ?_ GE222.out) hb)
      have n4_ := Aside0.mk (hbox)
      have n5_ := Aside0.mk ((by rw [hg]; exact (below_size (by with_reducible repeat first | exact HB.out | apply ba | apply bn | apply bd | refine bs ?_ GE212.out | refine bs ?_ GE213.out | refine bs ?_ GE222.out)) : w.heap.size ≤ gb223))
      have n6_ := Aside0.mk ((by rw [hg]; exact (below_size (by with_reducible repeat first | exact HB.out | apply ba | apply bn | apply bd | refine bs ?_ GE212.out | refine bs ?_ GE213.out | refine bs ?_ GE222.out)) : w.heap.size ≤ gb223))
      have n7_ := Aside0.mk ((by rw [hg]; exact Nat.ne_of_lt (blk_lt (g := gb212) (o := .cells #[.int .i64 a0_0, .int .i64 a0_1] 23 (0, 0)) BK212.out) : gb212 ≠ gb223))
      have n8_ := Aside0.mk ((by rw [hg]; exact Nat.ne_of_gt (blk_lt (g := gb212) (o := .cells #[.int .i64 a0_0, .int .i64 a0_1] 23 (0, 0)) BK212.out) : gb223 ≠ gb212))
      have n9_ := Aside0.mk ((by rw [hg]; exact Nat.ne_of_lt (blk_lt (g := gb213) (o := .cells #[.int .i64 a1_0, .int .i64 a1_1] 23 (0, 0)) BK213.out) : gb213 ≠ gb223))
      have n10_ := Aside0.mk ((by rw [hg]; exact Nat.ne_of_gt (blk_lt (g := gb213) (o := .cells #[.int .i64 a1_0, .int .i64 a1_1] 23 (0, 0)) BK213.out) : gb223 ≠ gb213))
      have n11_ := Aside0.mk ((by rw [hg]; exact Nat.ne_of_lt (blk_lt (g := gb222) (o := .cells #[.int .i64 0, .int .i64 0, .int .i64 0] 48 (0, 0)) BK222.out) : gb222 ≠ gb223))
      have n12_ := Aside0.mk ((by rw [hg]; exact Nat.ne_of_gt (blk_lt (g := gb222) (o := .cells #[.int .i64 0, .int .i64 0, .int .i64 0] 48 (0, 0)) BK222.out) : gb223 ≠ gb222))
      clear BK212
      clear BK213
      clear BK222
      clear HB
      have BK212 := n0_
      have BK213 := n1_
      have BK222 := n2_
      have HB := n3_
      have BK223 := n4_
      have GW223 := n5_
      have GE223 := n6_
      have NB212_223 := n7_
      have NB223_212 := n8_
      have NB213_223 := n9_
      have NB223_213 := n10_
      have NB222_223 := n11_
      have NB223_222 := n12_
      clear n0_ n1_ n2_ n3_ n4_ n5_ n6_ n7_ n8_ n9_ n10_ n11_ n12_
      clear hb hbox hg
      refine hK.out _ _ ⟨(blk_cell BK212.out 0).trans rfl, (blk_cell BK212.out 1).trans rfl, (blk_cell BK213.out 0).trans rfl, (blk_cell BK213.out 1).trans rfl⟩ (fun hHeld => ?_)
      clear hK K
      refine norm_ (a' := ?_) ?_ ?_
      rotate_left
      ·show Act.put _ (some 6) _ = _
       simp only [Act.put, s1, s2, s3, i64_w, i32_w]
       rfl
      exact norm_ (by first | (simp only [putAll, Act.put, s1, s2, s3]; done) | (simp only [putAll, Act.put, s1, s2, s3]; rfl)) (hJ1_3_4_5 (gb222, gb223) _ ⟨hHeld, BK212.out, BK213.out, BK222.out, BK223.out, GW222.out, GE222.out, NB212_222.out, NB222_212.out, NB213_222.out, NB222_213.out, NB223_222.out, NB222_223.out, GW223.out, GE223.out, NB212_223.out, NB223_212.out, NB213_223.out, NB223_213.out, (by with_reducible repeat first | exact HB.out | apply ba | apply bn | apply bd | refine bs ?_ GE212.out | refine bs ?_ GE213.out | refine bs ?_ GE222.out | refine bs ?_ GE223.out)⟩)
    rintro ⟨gb222, gb223⟩ w25 ⟨hS_, h0_, h1_, h2_, h3_, h4_, h5_, h6_, h7_, h8_, h9_, h10_, h11_, h12_, h13_, h14_, h15_, h16_, h17_, h18_⟩
    have n0_ : Aside0 (w25.heap[gb212]? = some (.cells #[.int .i64 a0_0, .int .i64 a0_1] 23 (0, 0))) := ⟨h0_⟩
    have n1_ : Aside0 (w25.heap[gb213]? = some (.cells #[.int .i64 a1_0, .int .i64 a1_1] 23 (0, 0))) := ⟨h1_⟩
    have n2_ : Aside0 (w25.heap[gb222]? = some (.cells #[.int .i64 0, .int .i64 0, .int .i64 0] 48 (0, 0))) := ⟨h2_⟩
    have n3_ : Aside0 (w25.heap[gb223]? = some (.cells #[.int .i64 0, .int .i64 0, .int .i64 0] 48 (0, 0))) := ⟨h3_⟩
    have n4_ : Aside0 (w.heap.size ≤ gb222) := ⟨h4_⟩
    have n5_ : Aside0 (w.heap.size ≤ gb222) := ⟨h5_⟩
    have n6_ : Aside0 (gb212 ≠ gb222) := ⟨h6_⟩
    have n7_ : Aside0 (gb222 ≠ gb212) := ⟨h7_⟩
    have n8_ : Aside0 (gb213 ≠ gb222) := ⟨h8_⟩
    have n9_ : Aside0 (gb222 ≠ gb213) := ⟨h9_⟩
    have n10_ : Aside0 (gb223 ≠ gb222) := ⟨h10_⟩
    have n11_ : Aside0 (gb222 ≠ gb223) := ⟨h11_⟩
    have n12_ : Aside0 (w.heap.size ≤ gb223) := ⟨h12_⟩
    have n13_ : Aside0 (w.heap.size ≤ gb223) := ⟨h13_⟩
    have n14_ : Aside0 (gb212 ≠ gb223) := ⟨h14_⟩
    have n15_ : Aside0 (gb223 ≠ gb212) := ⟨h15_⟩
    have n16_ : Aside0 (gb213 ≠ gb223) := ⟨h16_⟩
    have n17_ : Aside0 (gb223 ≠ gb213) := ⟨h17_⟩
    have n18_ : Aside0 (Below w.heap.size w w25) := ⟨h18_⟩
    clear BK212
    clear BK213
    clear HB
    clear h0_ h1_ h2_ h3_ h4_ h5_ h6_ h7_ h8_ h9_ h10_ h11_ h12_ h13_ h14_ h15_ h16_ h17_ h18_
    have BK212 := n0_
    have BK213 := n1_
    have BK222 := n2_
    have BK223 := n3_
    have GW222 := n4_
    have GE222 := n5_
    have NB212_222 := n6_
    have NB222_212 := n7_
    have NB213_222 := n8_
    have NB222_213 := n9_
    have NB223_222 := n10_
    have NB222_223 := n11_
    have GW223 := n12_
    have GE223 := n13_
    have NB212_223 := n14_
    have NB223_212 := n15_
    have NB213_223 := n16_
    have NB223_213 := n17_
    have HB := n18_
    clear n0_ n1_ n2_ n3_ n4_ n5_ n6_ n7_ n8_ n9_ n10_ n11_ n12_ n13_ n14_ n15_ n16_ n17_ n18_
    have hHeld : w25.cell? ⟨gb212, 0, none⟩ = some (.int .i64 a0_0) ∧ w25.cell? ⟨gb212, 1, none⟩ = some (.int .i64 a0_1) ∧ w25.cell? ⟨gb213, 0, none⟩ = some (.int .i64 a1_0) ∧ w25.cell? ⟨gb213, 1, none⟩ = some (.int .i64 a1_1) := hS_
    refine norm_ (a' := ?_) ?_ ?_
    rotate_left
    ·simp only [putAll, Act.put, s1, s2, s3]
     rfl
    refine one_ (i := 6) (N := none) #[true, true, true, true, true, true, true, false] rfl rfl (one_of HT_.out (by kernel_rfl)) (by decide) (fun K hK => ?_)
    have hs26 : w25.cell? ⟨gb222, 0, none⟩ = some (.int .i64 0) := (blk_cell BK222.out 0).trans rfl
    have hfs26 := blk_frozen BK222.out 0
    have hns26_0 := NB212_222.out
    have hns26_1 := NB213_222.out
    have hns26_3 := NB223_222.out
    have hms26_0 := NB222_212.out
    have hms26_1 := NB222_213.out
    have hms26_3 := NB222_223.out
    have hs27 : w25.cell? ⟨gb222, 1, none⟩ = some (.int .i64 0) := (blk_cell BK222.out 1).trans rfl
    have hfs27 := blk_frozen BK222.out 1
    have hns27_0 := NB212_222.out
    have hns27_1 := NB213_222.out
    have hns27_3 := NB223_222.out
    have hms27_0 := NB222_212.out
    have hms27_1 := NB222_213.out
    have hms27_3 := NB222_223.out
    have hs28 : w25.cell? ⟨gb222, 2, none⟩ = some (.int .i64 0) := (blk_cell BK222.out 2).trans rfl
    have hfs28 := blk_frozen BK222.out 2
    have hns28_0 := NB212_222.out
    have hns28_1 := NB213_222.out
    have hns28_3 := NB223_222.out
    have hms28_0 := NB222_212.out
    have hms28_1 := NB222_213.out
    have hms28_3 := NB222_223.out
    refine skip_ (w1 := ?_) (by rfl) rfl ?_ ?_
    rotate_left
    ·go_simp
     rfl
    refine hK.out _ _ ⟨((cell_far (p := ⟨gb222, _, none⟩) NB212_222.out _).trans (((cell_far (p := ⟨gb222, _, none⟩) NB212_222.out _).trans (((cell_far (p := ⟨gb222, _, none⟩) NB212_222.out _).trans (hHeld.1)))))), ((cell_far (p := ⟨gb222, _, none⟩) NB212_222.out _).trans (((cell_far (p := ⟨gb222, _, none⟩) NB212_222.out _).trans (((cell_far (p := ⟨gb222, _, none⟩) NB212_222.out _).trans (hHeld.2.1)))))), ((cell_far (p := ⟨gb222, _, none⟩) NB213_222.out _).trans (((cell_far (p := ⟨gb222, _, none⟩) NB213_222.out _).trans (((cell_far (p := ⟨gb222, _, none⟩) NB213_222.out _).trans (hHeld.2.2.1)))))), ((cell_far (p := ⟨gb222, _, none⟩) NB213_222.out _).trans (((cell_far (p := ⟨gb222, _, none⟩) NB213_222.out _).trans (((cell_far (p := ⟨gb222, _, none⟩) NB213_222.out _).trans (hHeld.2.2.2))))))⟩ (fun hHeld => ?_)
    clear hK K
    refine one_ (i := 7) (N := none) #[true, true, true, true, true, true, true, true] rfl rfl (one_of HT_.out (by kernel_rfl)) (by decide) (fun K hK => ?_)
    have hs29 : w25.cell? ⟨gb223, 0, none⟩ = some (.int .i64 0) := (blk_cell BK223.out 0).trans rfl
    have hfs29 := blk_frozen BK223.out 0
    have hns29_0 := NB212_223.out
    have hns29_1 := NB213_223.out
    have hns29_2 := NB222_223.out
    have hms29_0 := NB223_212.out
    have hms29_1 := NB223_213.out
    have hms29_2 := NB223_222.out
    have hs30 : w25.cell? ⟨gb223, 1, none⟩ = some (.int .i64 0) := (blk_cell BK223.out 1).trans rfl
    have hfs30 := blk_frozen BK223.out 1
    have hns30_0 := NB212_223.out
    have hns30_1 := NB213_223.out
    have hns30_2 := NB222_223.out
    have hms30_0 := NB223_212.out
    have hms30_1 := NB223_213.out
    have hms30_2 := NB223_222.out
    have hs31 : w25.cell? ⟨gb223, 2, none⟩ = some (.int .i64 0) := (blk_cell BK223.out 2).trans rfl
    have hfs31 := blk_frozen BK223.out 2
    have hns31_0 := NB212_223.out
    have hns31_1 := NB213_223.out
    have hns31_2 := NB222_223.out
    have hms31_0 := NB223_212.out
    have hms31_1 := NB223_213.out
    have hms31_2 := NB223_222.out
    refine skip_ (w1 := ?_) (by rfl) rfl ?_ ?_
    rotate_left
    ·go_simp
     rfl
    refine hK.out _ _ ⟨((cell_far (p := ⟨gb223, _, none⟩) NB212_223.out _).trans (((cell_far (p := ⟨gb223, _, none⟩) NB212_223.out _).trans (((cell_far (p := ⟨gb223, _, none⟩) NB212_223.out _).trans (hHeld.1)))))), ((cell_far (p := ⟨gb223, _, none⟩) NB212_223.out _).trans (((cell_far (p := ⟨gb223, _, none⟩) NB212_223.out _).trans (((cell_far (p := ⟨gb223, _, none⟩) NB212_223.out _).trans (hHeld.2.1)))))), ((cell_far (p := ⟨gb223, _, none⟩) NB213_223.out _).trans (((cell_far (p := ⟨gb223, _, none⟩) NB213_223.out _).trans (((cell_far (p := ⟨gb223, _, none⟩) NB213_223.out _).trans (hHeld.2.2.1)))))), ((cell_far (p := ⟨gb223, _, none⟩) NB213_223.out _).trans (((cell_far (p := ⟨gb223, _, none⟩) NB213_223.out _).trans (((cell_far (p := ⟨gb223, _, none⟩) NB213_223.out _).trans (hHeld.2.2.2))))))⟩ (fun hHeld => ?_)
    clear hK K
    refine done_ (done_of HT_.out (by kernel_rfl)) ?_
    try go_wp2
    go_loopg [7, 21] kj2 (fun kq v7 v21 w' => ∃ (x7_2 : Int) (x21_2 : Int), v7 = .int .i64 x7_2 ∧ v21 = .int .i64 x21_2 ∧ Aside0 (sphere_Chord.l0 kq x7_2 x21_2 t216 t217 t218 t219 t220 t221 = some r) ∧ Aside0 (kq ≤ kj2) ∧ Aside0 (w'.heap[gb212]? = some (.cells #[.int .i64 a0_0, .int .i64 a0_1] 23 (0, 0))) ∧ Aside0 (w'.heap[gb213]? = some (.cells #[.int .i64 a1_0, .int .i64 a1_1] 23 (0, 0))) ∧ Aside0 (w'.heap[gb222]? = some (.cells #[.int .i64 t216, .int .i64 t217, .int .i64 t218] 48 (0, 0))) ∧ Aside0 (w'.heap[gb223]? = some (.cells #[.int .i64 t219, .int .i64 t220, .int .i64 t221] 48 (0, 0))) ∧ Aside0 (Below w.heap.size w w'))
    case atStart => exact ⟨(0), (0), (by first | rfl | (simp; done) | (simp [*]; done)), (by first | rfl | (simp; done) | (simp [*]; done)), H', ⟨Nat.le_refl _⟩, ⟨by (with_reducible repeat first | refine n_ ?_ _ | refine d_ ?_ | refine a_ ?_ _); refine blk_far ?_ NB212_223.out _; (with_reducible repeat first | refine n_ ?_ _ | refine d_ ?_ | refine a_ ?_ _); refine blk_far ?_ NB212_223.out _; (with_reducible repeat first | refine n_ ?_ _ | refine d_ ?_ | refine a_ ?_ _); refine blk_far ?_ NB212_223.out _; (with_reducible repeat first | refine n_ ?_ _ | refine d_ ?_ | refine a_ ?_ _); refine blk_far ?_ NB212_222.out _; (with_reducible repeat first | refine n_ ?_ _ | refine d_ ?_ | refine a_ ?_ _); refine blk_far ?_ NB212_222.out _; (with_reducible repeat first | refine n_ ?_ _ | refine d_ ?_ | refine a_ ?_ _); refine blk_far ?_ NB212_222.out _; (with_reducible repeat first | refine n_ ?_ _ | refine d_ ?_ | refine a_ ?_ _); exact BK212.out⟩, ⟨by (with_reducible repeat first | refine n_ ?_ _ | refine d_ ?_ | refine a_ ?_ _); refine blk_far ?_ NB213_223.out _; (with_reducible repeat first | refine n_ ?_ _ | refine d_ ?_ | refine a_ ?_ _); refine blk_far ?_ NB213_223.out _; (with_reducible repeat first | refine n_ ?_ _ | refine d_ ?_ | refine a_ ?_ _); refine blk_far ?_ NB213_223.out _; (with_reducible repeat first | refine n_ ?_ _ | refine d_ ?_ | refine a_ ?_ _); refine blk_far ?_ NB213_222.out _; (with_reducible repeat first | refine n_ ?_ _ | refine d_ ?_ | refine a_ ?_ _); refine blk_far ?_ NB213_222.out _; (with_reducible repeat first | refine n_ ?_ _ | refine d_ ?_ | refine a_ ?_ _); refine blk_far ?_ NB213_222.out _; (with_reducible repeat first | refine n_ ?_ _ | refine d_ ?_ | refine a_ ?_ _); exact BK213.out⟩, ⟨by (with_reducible repeat first | refine n_ ?_ _ | refine d_ ?_ | refine a_ ?_ _); refine blk_far ?_ NB222_223.out _; (with_reducible repeat first | refine n_ ?_ _ | refine d_ ?_ | refine a_ ?_ _); refine blk_far ?_ NB222_223.out _; (with_reducible repeat first | refine n_ ?_ _ | refine d_ ?_ | refine a_ ?_ _); refine blk_far ?_ NB222_223.out _; (with_reducible repeat first | refine n_ ?_ _ | refine d_ ?_ | refine a_ ?_ _); refine blk_put (cs := #[.int .i64 t216, .int .i64 t217, .int .i64 0]) ?_ 2 _ rfl; (with_reducible repeat first | refine n_ ?_ _ | refine d_ ?_ | refine a_ ?_ _); refine blk_put (cs := #[.int .i64 t216, .int .i64 0, .int .i64 0]) ?_ 1 _ rfl; (with_reducible repeat first | refine n_ ?_ _ | refine d_ ?_ | refine a_ ?_ _); refine blk_put (cs := #[.int .i64 0, .int .i64 0, .int .i64 0]) ?_ 0 _ rfl; (with_reducible repeat first | refine n_ ?_ _ | refine d_ ?_ | refine a_ ?_ _); exact BK222.out⟩, ⟨by (with_reducible repeat first | refine n_ ?_ _ | refine d_ ?_ | refine a_ ?_ _); refine blk_put (cs := #[.int .i64 t219, .int .i64 t220, .int .i64 0]) ?_ 2 _ rfl; (with_reducible repeat first | refine n_ ?_ _ | refine d_ ?_ | refine a_ ?_ _); refine blk_put (cs := #[.int .i64 t219, .int .i64 0, .int .i64 0]) ?_ 1 _ rfl; (with_reducible repeat first | refine n_ ?_ _ | refine d_ ?_ | refine a_ ?_ _); refine blk_put (cs := #[.int .i64 0, .int .i64 0, .int .i64 0]) ?_ 0 _ rfl; (with_reducible repeat first | refine n_ ?_ _ | refine d_ ?_ | refine a_ ?_ _); refine blk_far ?_ NB223_222.out _; (with_reducible repeat first | refine n_ ?_ _ | refine d_ ?_ | refine a_ ?_ _); refine blk_far ?_ NB223_222.out _; (with_reducible repeat first | refine n_ ?_ _ | refine d_ ?_ | refine a_ ?_ _); refine blk_far ?_ NB223_222.out _; (with_reducible repeat first | refine n_ ?_ _ | refine d_ ?_ | refine a_ ?_ _); exact BK223.out⟩, ⟨by with_reducible repeat first | exact HB.out | apply ba | apply bn | apply bd | refine bs ?_ GE212.out | refine bs ?_ GE213.out | refine bs ?_ GE222.out | refine bs ?_ GE223.out⟩⟩
    case round =>
     clear H'
     try clear c2
     try clear p2
     try clear c28
     obtain ⟨x7_2, x21_2, rfl, rfl, HA, HK2, BK212, BK213, BK222, BK223, HB⟩ := hrel
     cases gk with
     | zero => exact absurd HA.out (by simp [sphere_Chord.l0])
     | succ k2 =>
      have H := HA.out
      clear HA
      simp only [sphere_Chord.l0] at H
      by_cases c32 : x21_2 < 3
      ·rw [if_pos c32] at H
       have c32b0 : decide (x21_2 < 3) = true := decide_eq_true c32
       clear c32
       by_cases c33 : 0 ≤ x21_2
       ·rw [if_pos c33] at H
        have c33b0 : decide (0 ≤ x21_2) = true := decide_eq_true c33
        clear c33
        by_cases c34 : x21_2 = 0
        ·rw [if_pos c34] at H
         have c34b0 : (x21_2 == 0) = true := beq_iff_eq.mpr c34
         have c34b1 : (x21_2 != 0) = false := bne_eq_false_iff_eq.mpr c34
         clear c34
         have H' := Aside0.mk H
         clear H
         try go_wp2
         have n0_ := Aside0.mk (blk_drew BK212.out)
         have n1_ := Aside0.mk (blk_drew BK213.out)
         have n2_ := Aside0.mk (blk_drew BK222.out)
         have n3_ := Aside0.mk (blk_drew BK223.out)
         have n4_ := Aside0.mk (below_drew1 HB.out)
         clear BK212
         clear BK213
         clear BK222
         clear BK223
         clear HB
         have BK212 := n0_
         have BK213 := n1_
         have BK222 := n2_
         have BK223 := n3_
         have HB := n4_
         clear n0_ n1_ n2_ n3_ n4_
         have p35 : 0 ≤ (x21_2 : Int) := of_decide_eq_true (by first | (with_reducible assumption) | assumption)
         have q35 : x21_2 < (3 : Int) := of_decide_eq_true (by first | (with_reducible assumption) | assumption)
         have r35 : x21_2 = 0 := of_decide_eq_true (by first | (with_reducible assumption) | assumption)
         have hx35 : ∀ (a_ : Addr) (W_ : World), (Instr.indexAt 48 (.pointer (some a_)) (.int .i64 x21_2)).run Try.prog W_ = .ok (.pointer (some (a_.add 0))) W_ := (by intro a_ W_; rw [r35]; rw [run_indexAt_array W_ 48 a_ .i64 0 (by kernel_rfl)]; kernel_rfl)
         replace p35 := eq_true p35
         replace q35 := eq_true q35
         have p36 : 0 ≤ (x21_2 : Int) := of_decide_eq_true (by first | (with_reducible assumption) | assumption)
         have q36 : x21_2 < (3 : Int) := of_decide_eq_true (by first | (with_reducible assumption) | assumption)
         have r36 : x21_2 = 0 := of_decide_eq_true (by first | (with_reducible assumption) | assumption)
         have hx36 : ∀ (a_ : Addr) (W_ : World), (Instr.indexAt 48 (.pointer (some a_)) (.int .i64 x21_2)).run Try.prog W_ = .ok (.pointer (some (a_.add 0))) W_ := (by intro a_ W_; rw [r36]; rw [run_indexAt_array W_ 48 a_ .i64 0 (by kernel_rfl)]; kernel_rfl)
         replace p36 := eq_true p36
         replace q36 := eq_true q36
         have p37 : 0 ≤ (x21_2 : Int) := of_decide_eq_true (by first | (with_reducible assumption) | assumption)
         have q37 : x21_2 < (3 : Int) := of_decide_eq_true (by first | (with_reducible assumption) | assumption)
         have r37 : x21_2 = 0 := of_decide_eq_true (by first | (with_reducible assumption) | assumption)
         have hx37 : ∀ (a_ : Addr) (W_ : World), (Instr.indexAt 48 (.pointer (some a_)) (.int .i64 x21_2)).run Try.prog W_ = .ok (.pointer (some (a_.add 0))) W_ := (by intro a_ W_; rw [r37]; rw [run_indexAt_array W_ 48 a_ .i64 0 (by kernel_rfl)]; kernel_rfl)
         replace p37 := eq_true p37
         replace q37 := eq_true q37
         have p38 : 0 ≤ (x21_2 : Int) := of_decide_eq_true (by first | (with_reducible assumption) | assumption)
         have q38 : x21_2 < (3 : Int) := of_decide_eq_true (by first | (with_reducible assumption) | assumption)
         have r38 : x21_2 = 0 := of_decide_eq_true (by first | (with_reducible assumption) | assumption)
         have hx38 : ∀ (a_ : Addr) (W_ : World), (Instr.indexAt 48 (.pointer (some a_)) (.int .i64 x21_2)).run Try.prog W_ = .ok (.pointer (some (a_.add 0))) W_ := (by intro a_ W_; rw [r38]; rw [run_indexAt_array W_ 48 a_ .i64 0 (by kernel_rfl)]; kernel_rfl)
         replace p38 := eq_true p38
         replace q38 := eq_true q38
         refine start_ (n := 18) (S := fun w' => w'.cell? ⟨gb222, 0, none⟩ = some (.int .i64 t216) ∧ w'.cell? ⟨gb222, 1, none⟩ = some (.int .i64 t217) ∧ w'.cell? ⟨gb222, 2, none⟩ = some (.int .i64 t218) ∧ w'.cell? ⟨gb223, 0, none⟩ = some (.int .i64 t219) ∧ w'.cell? ⟨gb223, 1, none⟩ = some (.int .i64 t220) ∧ w'.cell? ⟨gb223, 2, none⟩ = some (.int .i64 t221)) (ds := []) #[false, false, false, false, false, false, false, false, false, false, false, false, false, false, false, false, false, false] (by kernel_rfl) rfl rfl ⟨(blk_cell BK222.out 0).trans rfl, (blk_cell BK222.out 1).trans rfl, (blk_cell BK222.out 2).trans rfl, (blk_cell BK223.out 0).trans rfl, (blk_cell BK223.out 1).trans rfl, (blk_cell BK223.out 2).trans rfl⟩ (fun hHeld => ?_); refine with_tabW sphere_Chord.tab8 sphere_Chord.bits8 (fun HT_ HW_ => ?_)
         generalize wr.drew = w39 at BK212 BK213 BK222 BK223 HB hHeld ⊢
         refine pure_ (i := 0) (N := some 24) (v := ?_) (a' := ?_) #[true, false, false, false, false, false, false, false, false, false, false, false, false, false, false, false, false, false] rfl rfl (any_of HT_.out (by kernel_rfl)) (fun _ _ _ h => h) (Or.inl ⟨by rfl, ?_⟩) ?_ ?_
         rotate_left
         ·intro w'
          go_simp
          with_reducible rfl
         rotate_left
         ·simp only [Act.put, s1, s2, s3, i64_w, i32_w]
          rfl
         refine pure_ (i := 1) (N := some 25) (v := ?_) (a' := ?_) #[true, true, false, false, false, false, false, false, false, false, false, false, false, false, false, false, false, false] rfl rfl (any_of HT_.out (by kernel_rfl)) (fun _ _ _ h => h) (Or.inl ⟨by rfl, ?_⟩) ?_ ?_
         rotate_left
         ·intro w'
          go_simp
          with_reducible rfl
         rotate_left
         ·simp only [Act.put, s1, s2, s3, i64_w, i32_w]
          rfl
         refine pure_ (i := 2) (N := some 26) (v := ?_) (a' := ?_) #[true, true, true, false, false, false, false, false, false, false, false, false, false, false, false, false, false, false] rfl rfl (any_of HT_.out (by kernel_rfl)) (fun _ _ _ h => h) (Or.inl ⟨by rfl, ?_⟩) ?_ ?_
         rotate_left
         ·intro w'
          go_simp
          with_reducible rfl
         rotate_left
         ·simp only [Act.put, s1, s2, s3, i64_w, i32_w]
          rfl
         refine pure_ (i := 4) (N := some 28) (v := ?_) (a' := ?_) #[true, true, true, false, true, false, false, false, false, false, false, false, false, false, false, false, false, false] rfl rfl (any_of HT_.out (by kernel_rfl)) (fun _ _ _ h => h) (Or.inl ⟨by rfl, ?_⟩) ?_ ?_
         rotate_left
         ·intro w'
          go_simp
          with_reducible rfl
         rotate_left
         ·simp only [Act.put, s1, s2, s3, i64_w, i32_w]
          rfl
         refine pure_ (i := 5) (N := some 29) (v := ?_) (a' := ?_) #[true, true, true, false, true, true, false, false, false, false, false, false, false, false, false, false, false, false] rfl rfl (any_of HT_.out (by kernel_rfl)) (fun _ _ _ h => h) (Or.inl ⟨by rfl, ?_⟩) ?_ ?_
         rotate_left
         ·intro w'
          go_simp
          with_reducible rfl
         rotate_left
         ·simp only [Act.put, s1, s2, s3, i64_w, i32_w]
          rfl
         refine pure_ (i := 8) (N := some 32) (v := ?_) (a' := ?_) #[true, true, true, false, true, true, false, false, true, false, false, false, false, false, false, false, false, false] rfl rfl (any_of HT_.out (by kernel_rfl)) (fun _ _ _ h => h) (Or.inl ⟨by rfl, ?_⟩) ?_ ?_
         rotate_left
         ·intro w'
          go_simp
          with_reducible rfl
         rotate_left
         ·simp only [Act.put, s1, s2, s3, i64_w, i32_w]
          rfl
         refine pure_ (i := 9) (N := some 33) (v := ?_) (a' := ?_) #[true, true, true, false, true, true, false, false, true, true, false, false, false, false, false, false, false, false] rfl rfl (any_of HT_.out (by kernel_rfl)) (fun _ _ _ h => h) (Or.inl ⟨by rfl, ?_⟩) ?_ ?_
         rotate_left
         ·intro w'
          go_simp
          with_reducible rfl
         rotate_left
         ·simp only [Act.put, s1, s2, s3, i64_w, i32_w]
          rfl
         refine pure_ (i := 11) (N := some 35) (v := ?_) (a' := ?_) #[true, true, true, false, true, true, false, false, true, true, false, true, false, false, false, false, false, false] rfl rfl (any_of HT_.out (by kernel_rfl)) (fun _ _ _ h => h) (Or.inl ⟨by rfl, ?_⟩) ?_ ?_
         rotate_left
         ·intro w'
          go_simp
          with_reducible rfl
         rotate_left
         ·simp only [Act.put, s1, s2, s3, i64_w, i32_w]
          rfl
         refine pure_ (i := 12) (N := some 36) (v := ?_) (a' := ?_) #[true, true, true, false, true, true, false, false, true, true, false, true, true, false, false, false, false, false] rfl rfl (any_of HT_.out (by kernel_rfl)) (fun _ _ _ h => h) (Or.inl ⟨by rfl, ?_⟩) ?_ ?_
         rotate_left
         ·intro w'
          go_simp
          with_reducible rfl
         rotate_left
         ·simp only [Act.put, s1, s2, s3, i64_w, i32_w]
          rfl
         refine take_ (i := 3) (N := some 27) (v := ?_) (a' := ?_) #[true, true, true, true, true, true, false, false, true, true, false, true, true, false, false, false, false, false] rfl rfl (take_ofW HT_.out HW_.out (by kernel_rfl)) (fun _ _ _ h => h) (Or.inl ⟨by rfl, ?_⟩) hHeld ?_ ?_
         rotate_left
         ·rintro w' ⟨s0, s1, s2, s3, s4, s5⟩
          go_simp
          with_reducible rfl
         rotate_left
         ·simp only [Act.put, s1, s2, s3, i64_w, i32_w]
          rfl
         refine take_ (i := 6) (N := some 30) (v := ?_) (a' := ?_) #[true, true, true, true, true, true, true, false, true, true, false, true, true, false, false, false, false, false] rfl rfl (take_ofW HT_.out HW_.out (by kernel_rfl)) (fun _ _ _ h => h) (Or.inl ⟨by rfl, ?_⟩) hHeld ?_ ?_
         rotate_left
         ·rintro w' ⟨s0, s1, s2, s3, s4, s5⟩
          go_simp
          with_reducible rfl
         rotate_left
         ·simp only [Act.put, s1, s2, s3, i64_w, i32_w]
          rfl
         refine pure_ (i := 7) (N := some 31) (v := ?_) (a' := ?_) #[true, true, true, true, true, true, true, true, true, true, false, true, true, false, false, false, false, false] rfl rfl (any_of HT_.out (by kernel_rfl)) (fun _ _ _ h => h) (Or.inl ⟨by rfl, ?_⟩) ?_ ?_
         rotate_left
         ·intro w'
          go_simp
          with_reducible rfl
         rotate_left
         ·simp only [Act.put, s1, s2, s3, i64_w, i32_w]
          rfl
         refine take_ (i := 10) (N := some 34) (v := ?_) (a' := ?_) #[true, true, true, true, true, true, true, true, true, true, true, true, true, false, false, false, false, false] rfl rfl (take_ofW HT_.out HW_.out (by kernel_rfl)) (fun _ _ _ h => h) (Or.inl ⟨by rfl, ?_⟩) hHeld ?_ ?_
         rotate_left
         ·rintro w' ⟨s0, s1, s2, s3, s4, s5⟩
          go_simp
          with_reducible rfl
         rotate_left
         ·simp only [Act.put, s1, s2, s3, i64_w, i32_w]
          rfl
         refine take_ (i := 13) (N := some 37) (v := ?_) (a' := ?_) #[true, true, true, true, true, true, true, true, true, true, true, true, true, true, false, false, false, false] rfl rfl (take_ofW HT_.out HW_.out (by kernel_rfl)) (fun _ _ _ h => h) (Or.inl ⟨by rfl, ?_⟩) hHeld ?_ ?_
         rotate_left
         ·rintro w' ⟨s0, s1, s2, s3, s4, s5⟩
          go_simp
          with_reducible rfl
         rotate_left
         ·simp only [Act.put, s1, s2, s3, i64_w, i32_w]
          rfl
         refine pure_ (i := 14) (N := some 38) (v := ?_) (a' := ?_) #[true, true, true, true, true, true, true, true, true, true, true, true, true, true, true, false, false, false] rfl rfl (any_of HT_.out (by kernel_rfl)) (fun _ _ _ h => h) (Or.inl ⟨by rfl, ?_⟩) ?_ ?_
         rotate_left
         ·intro w'
          go_simp
          with_reducible rfl
         rotate_left
         ·simp only [Act.put, s1, s2, s3, i64_w, i32_w]
          rfl
         refine pure_ (i := 15) (N := some 39) (v := ?_) (a' := ?_) #[true, true, true, true, true, true, true, true, true, true, true, true, true, true, true, true, false, false] rfl rfl (any_of HT_.out (by kernel_rfl)) (fun _ _ _ h => h) (Or.inl ⟨by rfl, ?_⟩) ?_ ?_
         rotate_left
         ·intro w'
          go_simp
          with_reducible rfl
         rotate_left
         ·simp only [Act.put, s1, s2, s3, i64_w, i32_w]
          rfl
         refine pure_ (i := 16) (N := some 40) (v := ?_) (a' := ?_) #[true, true, true, true, true, true, true, true, true, true, true, true, true, true, true, true, true, false] rfl rfl (any_of HT_.out (by kernel_rfl)) (fun _ _ _ h => h) (Or.inl ⟨by rfl, ?_⟩) ?_ ?_
         rotate_left
         ·intro w'
          go_simp
          with_reducible rfl
         rotate_left
         ·simp only [Act.put, s1, s2, s3, i64_w, i32_w]
          rfl
         refine pure_ (i := 17) (N := some 7) (v := ?_) (a' := ?_) #[true, true, true, true, true, true, true, true, true, true, true, true, true, true, true, true, true, true] rfl rfl (any_of HT_.out (by kernel_rfl)) (fun _ _ _ h => h) (Or.inl ⟨by rfl, ?_⟩) ?_ ?_
         rotate_left
         ·intro w'
          go_simp
          with_reducible rfl
         rotate_left
         ·simp only [Act.put, s1, s2, s3, i64_w, i32_w]
          rfl
         refine done_ (done_of HT_.out (by kernel_rfl)) ?_
         try go_wp2
         go_roundg k2
         case measure => have := HJ2.out; have := HK2.out; omega
         case rel => exact ⟨(wrap64 (x7_2 + (wrap64 ((wrap64 (t216 - t219)) * (wrap64 (t216 - t219)))))), (wrap64 (x21_2 + 1)), (by first | rfl | (simp; done) | (simp [*]; done) | (simp [*]; unfold wrap64; omega)), (by first | rfl | (simp; done) | (simp [*]; done) | (simp [*]; unfold wrap64; omega)), H', ⟨by have := HJ2.out; have := HK2.out; omega⟩, BK212, BK213, BK222, BK223, ⟨by with_reducible repeat first | exact HB.out | apply ba | apply bn | apply bd | refine bs ?_ GE212.out | refine bs ?_ GE213.out | refine bs ?_ GE222.out | refine bs ?_ GE223.out⟩⟩
        ·rw [if_neg c34] at H
         have c34b0 : (x21_2 == 0) = false := beq_eq_false_iff_ne.mpr c34
         have c34b1 : (x21_2 != 0) = true := bne_iff_ne.mpr c34
         by_cases c40 : x21_2 = 1
         ·rw [if_pos c40] at H
          have c40b0 : (x21_2 == 1) = true := beq_iff_eq.mpr c40
          have c40b1 : (x21_2 != 1) = false := bne_eq_false_iff_eq.mpr c40
          clear c40
          have H' := Aside0.mk H
          clear H
          try go_wp2
          have n0_ := Aside0.mk (blk_drew BK212.out)
          have n1_ := Aside0.mk (blk_drew BK213.out)
          have n2_ := Aside0.mk (blk_drew BK222.out)
          have n3_ := Aside0.mk (blk_drew BK223.out)
          have n4_ := Aside0.mk (below_drew1 HB.out)
          clear BK212
          clear BK213
          clear BK222
          clear BK223
          clear HB
          have BK212 := n0_
          have BK213 := n1_
          have BK222 := n2_
          have BK223 := n3_
          have HB := n4_
          clear n0_ n1_ n2_ n3_ n4_
          have p41 : 0 ≤ (x21_2 : Int) := of_decide_eq_true (by first | (with_reducible assumption) | assumption)
          have q41 : x21_2 < (3 : Int) := of_decide_eq_true (by first | (with_reducible assumption) | assumption)
          have r41 : x21_2 = 1 := of_decide_eq_true (by first | (with_reducible assumption) | assumption)
          have hx41 : ∀ (a_ : Addr) (W_ : World), (Instr.indexAt 48 (.pointer (some a_)) (.int .i64 x21_2)).run Try.prog W_ = .ok (.pointer (some (a_.add 1))) W_ := (by intro a_ W_; rw [r41]; rw [run_indexAt_array W_ 48 a_ .i64 1 (by kernel_rfl)]; kernel_rfl)
          replace p41 := eq_true p41
          replace q41 := eq_true q41
          have p42 : 0 ≤ (x21_2 : Int) := of_decide_eq_true (by first | (with_reducible assumption) | assumption)
          have q42 : x21_2 < (3 : Int) := of_decide_eq_true (by first | (with_reducible assumption) | assumption)
          have r42 : x21_2 = 1 := of_decide_eq_true (by first | (with_reducible assumption) | assumption)
          have hx42 : ∀ (a_ : Addr) (W_ : World), (Instr.indexAt 48 (.pointer (some a_)) (.int .i64 x21_2)).run Try.prog W_ = .ok (.pointer (some (a_.add 1))) W_ := (by intro a_ W_; rw [r42]; rw [run_indexAt_array W_ 48 a_ .i64 1 (by kernel_rfl)]; kernel_rfl)
          replace p42 := eq_true p42
          replace q42 := eq_true q42
          have p43 : 0 ≤ (x21_2 : Int) := of_decide_eq_true (by first | (with_reducible assumption) | assumption)
          have q43 : x21_2 < (3 : Int) := of_decide_eq_true (by first | (with_reducible assumption) | assumption)
          have r43 : x21_2 = 1 := of_decide_eq_true (by first | (with_reducible assumption) | assumption)
          have hx43 : ∀ (a_ : Addr) (W_ : World), (Instr.indexAt 48 (.pointer (some a_)) (.int .i64 x21_2)).run Try.prog W_ = .ok (.pointer (some (a_.add 1))) W_ := (by intro a_ W_; rw [r43]; rw [run_indexAt_array W_ 48 a_ .i64 1 (by kernel_rfl)]; kernel_rfl)
          replace p43 := eq_true p43
          replace q43 := eq_true q43
          have p44 : 0 ≤ (x21_2 : Int) := of_decide_eq_true (by first | (with_reducible assumption) | assumption)
          have q44 : x21_2 < (3 : Int) := of_decide_eq_true (by first | (with_reducible assumption) | assumption)
          have r44 : x21_2 = 1 := of_decide_eq_true (by first | (with_reducible assumption) | assumption)
          have hx44 : ∀ (a_ : Addr) (W_ : World), (Instr.indexAt 48 (.pointer (some a_)) (.int .i64 x21_2)).run Try.prog W_ = .ok (.pointer (some (a_.add 1))) W_ := (by intro a_ W_; rw [r44]; rw [run_indexAt_array W_ 48 a_ .i64 1 (by kernel_rfl)]; kernel_rfl)
          replace p44 := eq_true p44
          replace q44 := eq_true q44
          refine start_ (n := 18) (S := fun w' => w'.cell? ⟨gb222, 0, none⟩ = some (.int .i64 t216) ∧ w'.cell? ⟨gb222, 1, none⟩ = some (.int .i64 t217) ∧ w'.cell? ⟨gb222, 2, none⟩ = some (.int .i64 t218) ∧ w'.cell? ⟨gb223, 0, none⟩ = some (.int .i64 t219) ∧ w'.cell? ⟨gb223, 1, none⟩ = some (.int .i64 t220) ∧ w'.cell? ⟨gb223, 2, none⟩ = some (.int .i64 t221)) (ds := []) #[false, false, false, false, false, false, false, false, false, false, false, false, false, false, false, false, false, false] (by kernel_rfl) rfl rfl ⟨(blk_cell BK222.out 0).trans rfl, (blk_cell BK222.out 1).trans rfl, (blk_cell BK222.out 2).trans rfl, (blk_cell BK223.out 0).trans rfl, (blk_cell BK223.out 1).trans rfl, (blk_cell BK223.out 2).trans rfl⟩ (fun hHeld => ?_); refine with_tabW sphere_Chord.tab8 sphere_Chord.bits8 (fun HT_ HW_ => ?_)
          generalize wr.drew = w45 at BK212 BK213 BK222 BK223 HB hHeld ⊢
          refine pure_ (i := 0) (N := some 24) (v := ?_) (a' := ?_) #[true, false, false, false, false, false, false, false, false, false, false, false, false, false, false, false, false, false] rfl rfl (any_of HT_.out (by kernel_rfl)) (fun _ _ _ h => h) (Or.inl ⟨by rfl, ?_⟩) ?_ ?_
          rotate_left
          ·intro w'
           go_simp
           with_reducible rfl
          rotate_left
          ·simp only [Act.put, s1, s2, s3, i64_w, i32_w]
           rfl
          refine pure_ (i := 1) (N := some 25) (v := ?_) (a' := ?_) #[true, true, false, false, false, false, false, false, false, false, false, false, false, false, false, false, false, false] rfl rfl (any_of HT_.out (by kernel_rfl)) (fun _ _ _ h => h) (Or.inl ⟨by rfl, ?_⟩) ?_ ?_
          rotate_left
          ·intro w'
           go_simp
           with_reducible rfl
          rotate_left
          ·simp only [Act.put, s1, s2, s3, i64_w, i32_w]
           rfl
          refine pure_ (i := 2) (N := some 26) (v := ?_) (a' := ?_) #[true, true, true, false, false, false, false, false, false, false, false, false, false, false, false, false, false, false] rfl rfl (any_of HT_.out (by kernel_rfl)) (fun _ _ _ h => h) (Or.inl ⟨by rfl, ?_⟩) ?_ ?_
          rotate_left
          ·intro w'
           go_simp
           with_reducible rfl
          rotate_left
          ·simp only [Act.put, s1, s2, s3, i64_w, i32_w]
           rfl
          refine pure_ (i := 4) (N := some 28) (v := ?_) (a' := ?_) #[true, true, true, false, true, false, false, false, false, false, false, false, false, false, false, false, false, false] rfl rfl (any_of HT_.out (by kernel_rfl)) (fun _ _ _ h => h) (Or.inl ⟨by rfl, ?_⟩) ?_ ?_
          rotate_left
          ·intro w'
           go_simp
           with_reducible rfl
          rotate_left
          ·simp only [Act.put, s1, s2, s3, i64_w, i32_w]
           rfl
          refine pure_ (i := 5) (N := some 29) (v := ?_) (a' := ?_) #[true, true, true, false, true, true, false, false, false, false, false, false, false, false, false, false, false, false] rfl rfl (any_of HT_.out (by kernel_rfl)) (fun _ _ _ h => h) (Or.inl ⟨by rfl, ?_⟩) ?_ ?_
          rotate_left
          ·intro w'
           go_simp
           with_reducible rfl
          rotate_left
          ·simp only [Act.put, s1, s2, s3, i64_w, i32_w]
           rfl
          refine pure_ (i := 8) (N := some 32) (v := ?_) (a' := ?_) #[true, true, true, false, true, true, false, false, true, false, false, false, false, false, false, false, false, false] rfl rfl (any_of HT_.out (by kernel_rfl)) (fun _ _ _ h => h) (Or.inl ⟨by rfl, ?_⟩) ?_ ?_
          rotate_left
          ·intro w'
           go_simp
           with_reducible rfl
          rotate_left
          ·simp only [Act.put, s1, s2, s3, i64_w, i32_w]
           rfl
          refine pure_ (i := 9) (N := some 33) (v := ?_) (a' := ?_) #[true, true, true, false, true, true, false, false, true, true, false, false, false, false, false, false, false, false] rfl rfl (any_of HT_.out (by kernel_rfl)) (fun _ _ _ h => h) (Or.inl ⟨by rfl, ?_⟩) ?_ ?_
          rotate_left
          ·intro w'
           go_simp
           with_reducible rfl
          rotate_left
          ·simp only [Act.put, s1, s2, s3, i64_w, i32_w]
           rfl
          refine pure_ (i := 11) (N := some 35) (v := ?_) (a' := ?_) #[true, true, true, false, true, true, false, false, true, true, false, true, false, false, false, false, false, false] rfl rfl (any_of HT_.out (by kernel_rfl)) (fun _ _ _ h => h) (Or.inl ⟨by rfl, ?_⟩) ?_ ?_
          rotate_left
          ·intro w'
           go_simp
           with_reducible rfl
          rotate_left
          ·simp only [Act.put, s1, s2, s3, i64_w, i32_w]
           rfl
          refine pure_ (i := 12) (N := some 36) (v := ?_) (a' := ?_) #[true, true, true, false, true, true, false, false, true, true, false, true, true, false, false, false, false, false] rfl rfl (any_of HT_.out (by kernel_rfl)) (fun _ _ _ h => h) (Or.inl ⟨by rfl, ?_⟩) ?_ ?_
          rotate_left
          ·intro w'
           go_simp
           with_reducible rfl
          rotate_left
          ·simp only [Act.put, s1, s2, s3, i64_w, i32_w]
           rfl
          refine take_ (i := 3) (N := some 27) (v := ?_) (a' := ?_) #[true, true, true, true, true, true, false, false, true, true, false, true, true, false, false, false, false, false] rfl rfl (take_ofW HT_.out HW_.out (by kernel_rfl)) (fun _ _ _ h => h) (Or.inl ⟨by rfl, ?_⟩) hHeld ?_ ?_
          rotate_left
          ·rintro w' ⟨s0, s1, s2, s3, s4, s5⟩
           go_simp
           with_reducible rfl
          rotate_left
          ·simp only [Act.put, s1, s2, s3, i64_w, i32_w]
           rfl
          refine take_ (i := 6) (N := some 30) (v := ?_) (a' := ?_) #[true, true, true, true, true, true, true, false, true, true, false, true, true, false, false, false, false, false] rfl rfl (take_ofW HT_.out HW_.out (by kernel_rfl)) (fun _ _ _ h => h) (Or.inl ⟨by rfl, ?_⟩) hHeld ?_ ?_
          rotate_left
          ·rintro w' ⟨s0, s1, s2, s3, s4, s5⟩
           go_simp
           with_reducible rfl
          rotate_left
          ·simp only [Act.put, s1, s2, s3, i64_w, i32_w]
           rfl
          refine pure_ (i := 7) (N := some 31) (v := ?_) (a' := ?_) #[true, true, true, true, true, true, true, true, true, true, false, true, true, false, false, false, false, false] rfl rfl (any_of HT_.out (by kernel_rfl)) (fun _ _ _ h => h) (Or.inl ⟨by rfl, ?_⟩) ?_ ?_
          rotate_left
          ·intro w'
           go_simp
           with_reducible rfl
          rotate_left
          ·simp only [Act.put, s1, s2, s3, i64_w, i32_w]
           rfl
          refine take_ (i := 10) (N := some 34) (v := ?_) (a' := ?_) #[true, true, true, true, true, true, true, true, true, true, true, true, true, false, false, false, false, false] rfl rfl (take_ofW HT_.out HW_.out (by kernel_rfl)) (fun _ _ _ h => h) (Or.inl ⟨by rfl, ?_⟩) hHeld ?_ ?_
          rotate_left
          ·rintro w' ⟨s0, s1, s2, s3, s4, s5⟩
           go_simp
           with_reducible rfl
          rotate_left
          ·simp only [Act.put, s1, s2, s3, i64_w, i32_w]
           rfl
          refine take_ (i := 13) (N := some 37) (v := ?_) (a' := ?_) #[true, true, true, true, true, true, true, true, true, true, true, true, true, true, false, false, false, false] rfl rfl (take_ofW HT_.out HW_.out (by kernel_rfl)) (fun _ _ _ h => h) (Or.inl ⟨by rfl, ?_⟩) hHeld ?_ ?_
          rotate_left
          ·rintro w' ⟨s0, s1, s2, s3, s4, s5⟩
           go_simp
           with_reducible rfl
          rotate_left
          ·simp only [Act.put, s1, s2, s3, i64_w, i32_w]
           rfl
          refine pure_ (i := 14) (N := some 38) (v := ?_) (a' := ?_) #[true, true, true, true, true, true, true, true, true, true, true, true, true, true, true, false, false, false] rfl rfl (any_of HT_.out (by kernel_rfl)) (fun _ _ _ h => h) (Or.inl ⟨by rfl, ?_⟩) ?_ ?_
          rotate_left
          ·intro w'
           go_simp
           with_reducible rfl
          rotate_left
          ·simp only [Act.put, s1, s2, s3, i64_w, i32_w]
           rfl
          refine pure_ (i := 15) (N := some 39) (v := ?_) (a' := ?_) #[true, true, true, true, true, true, true, true, true, true, true, true, true, true, true, true, false, false] rfl rfl (any_of HT_.out (by kernel_rfl)) (fun _ _ _ h => h) (Or.inl ⟨by rfl, ?_⟩) ?_ ?_
          rotate_left
          ·intro w'
           go_simp
           with_reducible rfl
          rotate_left
          ·simp only [Act.put, s1, s2, s3, i64_w, i32_w]
           rfl
          refine pure_ (i := 16) (N := some 40) (v := ?_) (a' := ?_) #[true, true, true, true, true, true, true, true, true, true, true, true, true, true, true, true, true, false] rfl rfl (any_of HT_.out (by kernel_rfl)) (fun _ _ _ h => h) (Or.inl ⟨by rfl, ?_⟩) ?_ ?_
          rotate_left
          ·intro w'
           go_simp
           with_reducible rfl
          rotate_left
          ·simp only [Act.put, s1, s2, s3, i64_w, i32_w]
           rfl
          refine pure_ (i := 17) (N := some 7) (v := ?_) (a' := ?_) #[true, true, true, true, true, true, true, true, true, true, true, true, true, true, true, true, true, true] rfl rfl (any_of HT_.out (by kernel_rfl)) (fun _ _ _ h => h) (Or.inl ⟨by rfl, ?_⟩) ?_ ?_
          rotate_left
          ·intro w'
           go_simp
           with_reducible rfl
          rotate_left
          ·simp only [Act.put, s1, s2, s3, i64_w, i32_w]
           rfl
          refine done_ (done_of HT_.out (by kernel_rfl)) ?_
          try go_wp2
          go_roundg k2
          case measure => have := HJ2.out; have := HK2.out; omega
          case rel => exact ⟨(wrap64 (x7_2 + (wrap64 ((wrap64 (t217 - t220)) * (wrap64 (t217 - t220)))))), (wrap64 (x21_2 + 1)), (by first | rfl | (simp; done) | (simp [*]; done) | (simp [*]; unfold wrap64; omega)), (by first | rfl | (simp; done) | (simp [*]; done) | (simp [*]; unfold wrap64; omega)), H', ⟨by have := HJ2.out; have := HK2.out; omega⟩, BK212, BK213, BK222, BK223, ⟨by with_reducible repeat first | exact HB.out | apply ba | apply bn | apply bd | refine bs ?_ GE212.out | refine bs ?_ GE213.out | refine bs ?_ GE222.out | refine bs ?_ GE223.out⟩⟩
         ·rw [if_neg c40] at H
          have c40b0 : (x21_2 == 1) = false := beq_eq_false_iff_ne.mpr c40
          have c40b1 : (x21_2 != 1) = true := bne_iff_ne.mpr c40
          have H' := Aside0.mk H
          clear H
          try go_wp2
          have n0_ := Aside0.mk (blk_drew BK212.out)
          have n1_ := Aside0.mk (blk_drew BK213.out)
          have n2_ := Aside0.mk (blk_drew BK222.out)
          have n3_ := Aside0.mk (blk_drew BK223.out)
          have n4_ := Aside0.mk (below_drew1 HB.out)
          clear BK212
          clear BK213
          clear BK222
          clear BK223
          clear HB
          have BK212 := n0_
          have BK213 := n1_
          have BK222 := n2_
          have BK223 := n3_
          have HB := n4_
          clear n0_ n1_ n2_ n3_ n4_
          have p46 : 0 ≤ (x21_2 : Int) := of_decide_eq_true (by first | (with_reducible assumption) | assumption)
          have q46 : x21_2 < (3 : Int) := of_decide_eq_true (by first | (with_reducible assumption) | assumption)
          have r46 : x21_2 = 2 := (by have n0_ : ¬ x21_2 = 0 := of_decide_eq_false (by first | (with_reducible assumption) | assumption); have n1_ : ¬ x21_2 = 1 := of_decide_eq_false (by first | (with_reducible assumption) | assumption); omega)
          have hx46 : ∀ (a_ : Addr) (W_ : World), (Instr.indexAt 48 (.pointer (some a_)) (.int .i64 x21_2)).run Try.prog W_ = .ok (.pointer (some (a_.add 2))) W_ := (by intro a_ W_; rw [r46]; rw [run_indexAt_array W_ 48 a_ .i64 2 (by kernel_rfl)]; kernel_rfl)
          replace p46 := eq_true p46
          replace q46 := eq_true q46
          have p47 : 0 ≤ (x21_2 : Int) := of_decide_eq_true (by first | (with_reducible assumption) | assumption)
          have q47 : x21_2 < (3 : Int) := of_decide_eq_true (by first | (with_reducible assumption) | assumption)
          have r47 : x21_2 = 2 := (by have n0_ : ¬ x21_2 = 0 := of_decide_eq_false (by first | (with_reducible assumption) | assumption); have n1_ : ¬ x21_2 = 1 := of_decide_eq_false (by first | (with_reducible assumption) | assumption); omega)
          have hx47 : ∀ (a_ : Addr) (W_ : World), (Instr.indexAt 48 (.pointer (some a_)) (.int .i64 x21_2)).run Try.prog W_ = .ok (.pointer (some (a_.add 2))) W_ := (by intro a_ W_; rw [r47]; rw [run_indexAt_array W_ 48 a_ .i64 2 (by kernel_rfl)]; kernel_rfl)
          replace p47 := eq_true p47
          replace q47 := eq_true q47
          have p48 : 0 ≤ (x21_2 : Int) := of_decide_eq_true (by first | (with_reducible assumption) | assumption)
          have q48 : x21_2 < (3 : Int) := of_decide_eq_true (by first | (with_reducible assumption) | assumption)
          have r48 : x21_2 = 2 := (by have n0_ : ¬ x21_2 = 0 := of_decide_eq_false (by first | (with_reducible assumption) | assumption); have n1_ : ¬ x21_2 = 1 := of_decide_eq_false (by first | (with_reducible assumption) | assumption); omega)
          have hx48 : ∀ (a_ : Addr) (W_ : World), (Instr.indexAt 48 (.pointer (some a_)) (.int .i64 x21_2)).run Try.prog W_ = .ok (.pointer (some (a_.add 2))) W_ := (by intro a_ W_; rw [r48]; rw [run_indexAt_array W_ 48 a_ .i64 2 (by kernel_rfl)]; kernel_rfl)
          replace p48 := eq_true p48
          replace q48 := eq_true q48
          have p49 : 0 ≤ (x21_2 : Int) := of_decide_eq_true (by first | (with_reducible assumption) | assumption)
          have q49 : x21_2 < (3 : Int) := of_decide_eq_true (by first | (with_reducible assumption) | assumption)
          have r49 : x21_2 = 2 := (by have n0_ : ¬ x21_2 = 0 := of_decide_eq_false (by first | (with_reducible assumption) | assumption); have n1_ : ¬ x21_2 = 1 := of_decide_eq_false (by first | (with_reducible assumption) | assumption); omega)
          have hx49 : ∀ (a_ : Addr) (W_ : World), (Instr.indexAt 48 (.pointer (some a_)) (.int .i64 x21_2)).run Try.prog W_ = .ok (.pointer (some (a_.add 2))) W_ := (by intro a_ W_; rw [r49]; rw [run_indexAt_array W_ 48 a_ .i64 2 (by kernel_rfl)]; kernel_rfl)
          replace p49 := eq_true p49
          replace q49 := eq_true q49
          refine start_ (n := 18) (S := fun w' => w'.cell? ⟨gb222, 0, none⟩ = some (.int .i64 t216) ∧ w'.cell? ⟨gb222, 1, none⟩ = some (.int .i64 t217) ∧ w'.cell? ⟨gb222, 2, none⟩ = some (.int .i64 t218) ∧ w'.cell? ⟨gb223, 0, none⟩ = some (.int .i64 t219) ∧ w'.cell? ⟨gb223, 1, none⟩ = some (.int .i64 t220) ∧ w'.cell? ⟨gb223, 2, none⟩ = some (.int .i64 t221)) (ds := []) #[false, false, false, false, false, false, false, false, false, false, false, false, false, false, false, false, false, false] (by kernel_rfl) rfl rfl ⟨(blk_cell BK222.out 0).trans rfl, (blk_cell BK222.out 1).trans rfl, (blk_cell BK222.out 2).trans rfl, (blk_cell BK223.out 0).trans rfl, (blk_cell BK223.out 1).trans rfl, (blk_cell BK223.out 2).trans rfl⟩ (fun hHeld => ?_); refine with_tabW sphere_Chord.tab8 sphere_Chord.bits8 (fun HT_ HW_ => ?_)
          generalize wr.drew = w50 at BK212 BK213 BK222 BK223 HB hHeld ⊢
          refine pure_ (i := 0) (N := some 24) (v := ?_) (a' := ?_) #[true, false, false, false, false, false, false, false, false, false, false, false, false, false, false, false, false, false] rfl rfl (any_of HT_.out (by kernel_rfl)) (fun _ _ _ h => h) (Or.inl ⟨by rfl, ?_⟩) ?_ ?_
          rotate_left
          ·intro w'
           go_simp
           with_reducible rfl
          rotate_left
          ·simp only [Act.put, s1, s2, s3, i64_w, i32_w]
           rfl
          refine pure_ (i := 1) (N := some 25) (v := ?_) (a' := ?_) #[true, true, false, false, false, false, false, false, false, false, false, false, false, false, false, false, false, false] rfl rfl (any_of HT_.out (by kernel_rfl)) (fun _ _ _ h => h) (Or.inl ⟨by rfl, ?_⟩) ?_ ?_
          rotate_left
          ·intro w'
           go_simp
           with_reducible rfl
          rotate_left
          ·simp only [Act.put, s1, s2, s3, i64_w, i32_w]
           rfl
          refine pure_ (i := 2) (N := some 26) (v := ?_) (a' := ?_) #[true, true, true, false, false, false, false, false, false, false, false, false, false, false, false, false, false, false] rfl rfl (any_of HT_.out (by kernel_rfl)) (fun _ _ _ h => h) (Or.inl ⟨by rfl, ?_⟩) ?_ ?_
          rotate_left
          ·intro w'
           go_simp
           with_reducible rfl
          rotate_left
          ·simp only [Act.put, s1, s2, s3, i64_w, i32_w]
           rfl
          refine pure_ (i := 4) (N := some 28) (v := ?_) (a' := ?_) #[true, true, true, false, true, false, false, false, false, false, false, false, false, false, false, false, false, false] rfl rfl (any_of HT_.out (by kernel_rfl)) (fun _ _ _ h => h) (Or.inl ⟨by rfl, ?_⟩) ?_ ?_
          rotate_left
          ·intro w'
           go_simp
           with_reducible rfl
          rotate_left
          ·simp only [Act.put, s1, s2, s3, i64_w, i32_w]
           rfl
          refine pure_ (i := 5) (N := some 29) (v := ?_) (a' := ?_) #[true, true, true, false, true, true, false, false, false, false, false, false, false, false, false, false, false, false] rfl rfl (any_of HT_.out (by kernel_rfl)) (fun _ _ _ h => h) (Or.inl ⟨by rfl, ?_⟩) ?_ ?_
          rotate_left
          ·intro w'
           go_simp
           with_reducible rfl
          rotate_left
          ·simp only [Act.put, s1, s2, s3, i64_w, i32_w]
           rfl
          refine pure_ (i := 8) (N := some 32) (v := ?_) (a' := ?_) #[true, true, true, false, true, true, false, false, true, false, false, false, false, false, false, false, false, false] rfl rfl (any_of HT_.out (by kernel_rfl)) (fun _ _ _ h => h) (Or.inl ⟨by rfl, ?_⟩) ?_ ?_
          rotate_left
          ·intro w'
           go_simp
           with_reducible rfl
          rotate_left
          ·simp only [Act.put, s1, s2, s3, i64_w, i32_w]
           rfl
          refine pure_ (i := 9) (N := some 33) (v := ?_) (a' := ?_) #[true, true, true, false, true, true, false, false, true, true, false, false, false, false, false, false, false, false] rfl rfl (any_of HT_.out (by kernel_rfl)) (fun _ _ _ h => h) (Or.inl ⟨by rfl, ?_⟩) ?_ ?_
          rotate_left
          ·intro w'
           go_simp
           with_reducible rfl
          rotate_left
          ·simp only [Act.put, s1, s2, s3, i64_w, i32_w]
           rfl
          refine pure_ (i := 11) (N := some 35) (v := ?_) (a' := ?_) #[true, true, true, false, true, true, false, false, true, true, false, true, false, false, false, false, false, false] rfl rfl (any_of HT_.out (by kernel_rfl)) (fun _ _ _ h => h) (Or.inl ⟨by rfl, ?_⟩) ?_ ?_
          rotate_left
          ·intro w'
           go_simp
           with_reducible rfl
          rotate_left
          ·simp only [Act.put, s1, s2, s3, i64_w, i32_w]
           rfl
          refine pure_ (i := 12) (N := some 36) (v := ?_) (a' := ?_) #[true, true, true, false, true, true, false, false, true, true, false, true, true, false, false, false, false, false] rfl rfl (any_of HT_.out (by kernel_rfl)) (fun _ _ _ h => h) (Or.inl ⟨by rfl, ?_⟩) ?_ ?_
          rotate_left
          ·intro w'
           go_simp
           with_reducible rfl
          rotate_left
          ·simp only [Act.put, s1, s2, s3, i64_w, i32_w]
           rfl
          refine take_ (i := 3) (N := some 27) (v := ?_) (a' := ?_) #[true, true, true, true, true, true, false, false, true, true, false, true, true, false, false, false, false, false] rfl rfl (take_ofW HT_.out HW_.out (by kernel_rfl)) (fun _ _ _ h => h) (Or.inl ⟨by rfl, ?_⟩) hHeld ?_ ?_
          rotate_left
          ·rintro w' ⟨s0, s1, s2, s3, s4, s5⟩
           go_simp
           with_reducible rfl
          rotate_left
          ·simp only [Act.put, s1, s2, s3, i64_w, i32_w]
           rfl
          refine take_ (i := 6) (N := some 30) (v := ?_) (a' := ?_) #[true, true, true, true, true, true, true, false, true, true, false, true, true, false, false, false, false, false] rfl rfl (take_ofW HT_.out HW_.out (by kernel_rfl)) (fun _ _ _ h => h) (Or.inl ⟨by rfl, ?_⟩) hHeld ?_ ?_
          rotate_left
          ·rintro w' ⟨s0, s1, s2, s3, s4, s5⟩
           go_simp
           with_reducible rfl
          rotate_left
          ·simp only [Act.put, s1, s2, s3, i64_w, i32_w]
           rfl
          refine pure_ (i := 7) (N := some 31) (v := ?_) (a' := ?_) #[true, true, true, true, true, true, true, true, true, true, false, true, true, false, false, false, false, false] rfl rfl (any_of HT_.out (by kernel_rfl)) (fun _ _ _ h => h) (Or.inl ⟨by rfl, ?_⟩) ?_ ?_
          rotate_left
          ·intro w'
           go_simp
           with_reducible rfl
          rotate_left
          ·simp only [Act.put, s1, s2, s3, i64_w, i32_w]
           rfl
          refine take_ (i := 10) (N := some 34) (v := ?_) (a' := ?_) #[true, true, true, true, true, true, true, true, true, true, true, true, true, false, false, false, false, false] rfl rfl (take_ofW HT_.out HW_.out (by kernel_rfl)) (fun _ _ _ h => h) (Or.inl ⟨by rfl, ?_⟩) hHeld ?_ ?_
          rotate_left
          ·rintro w' ⟨s0, s1, s2, s3, s4, s5⟩
           go_simp
           with_reducible rfl
          rotate_left
          ·simp only [Act.put, s1, s2, s3, i64_w, i32_w]
           rfl
          refine take_ (i := 13) (N := some 37) (v := ?_) (a' := ?_) #[true, true, true, true, true, true, true, true, true, true, true, true, true, true, false, false, false, false] rfl rfl (take_ofW HT_.out HW_.out (by kernel_rfl)) (fun _ _ _ h => h) (Or.inl ⟨by rfl, ?_⟩) hHeld ?_ ?_
          rotate_left
          ·rintro w' ⟨s0, s1, s2, s3, s4, s5⟩
           go_simp
           with_reducible rfl
          rotate_left
          ·simp only [Act.put, s1, s2, s3, i64_w, i32_w]
           rfl
          refine pure_ (i := 14) (N := some 38) (v := ?_) (a' := ?_) #[true, true, true, true, true, true, true, true, true, true, true, true, true, true, true, false, false, false] rfl rfl (any_of HT_.out (by kernel_rfl)) (fun _ _ _ h => h) (Or.inl ⟨by rfl, ?_⟩) ?_ ?_
          rotate_left
          ·intro w'
           go_simp
           with_reducible rfl
          rotate_left
          ·simp only [Act.put, s1, s2, s3, i64_w, i32_w]
           rfl
          refine pure_ (i := 15) (N := some 39) (v := ?_) (a' := ?_) #[true, true, true, true, true, true, true, true, true, true, true, true, true, true, true, true, false, false] rfl rfl (any_of HT_.out (by kernel_rfl)) (fun _ _ _ h => h) (Or.inl ⟨by rfl, ?_⟩) ?_ ?_
          rotate_left
          ·intro w'
           go_simp
           with_reducible rfl
          rotate_left
          ·simp only [Act.put, s1, s2, s3, i64_w, i32_w]
           rfl
          refine pure_ (i := 16) (N := some 40) (v := ?_) (a' := ?_) #[true, true, true, true, true, true, true, true, true, true, true, true, true, true, true, true, true, false] rfl rfl (any_of HT_.out (by kernel_rfl)) (fun _ _ _ h => h) (Or.inl ⟨by rfl, ?_⟩) ?_ ?_
          rotate_left
          ·intro w'
           go_simp
           with_reducible rfl
          rotate_left
          ·simp only [Act.put, s1, s2, s3, i64_w, i32_w]
           rfl
          refine pure_ (i := 17) (N := some 7) (v := ?_) (a' := ?_) #[true, true, true, true, true, true, true, true, true, true, true, true, true, true, true, true, true, true] rfl rfl (any_of HT_.out (by kernel_rfl)) (fun _ _ _ h => h) (Or.inl ⟨by rfl, ?_⟩) ?_ ?_
          rotate_left
          ·intro w'
           go_simp
           with_reducible rfl
          rotate_left
          ·simp only [Act.put, s1, s2, s3, i64_w, i32_w]
           rfl
          refine done_ (done_of HT_.out (by kernel_rfl)) ?_
          try go_wp2
          go_roundg k2
          case measure => have := HJ2.out; have := HK2.out; omega
          case rel => exact ⟨(wrap64 (x7_2 + (wrap64 ((wrap64 (t218 - t221)) * (wrap64 (t218 - t221)))))), (wrap64 (x21_2 + 1)), (by first | rfl | (simp; done) | (simp [*]; done) | (simp [*]; unfold wrap64; omega)), (by first | rfl | (simp; done) | (simp [*]; done) | (simp [*]; unfold wrap64; omega)), H', ⟨by have := HJ2.out; have := HK2.out; omega⟩, BK212, BK213, BK222, BK223, ⟨by with_reducible repeat first | exact HB.out | apply ba | apply bn | apply bd | refine bs ?_ GE212.out | refine bs ?_ GE213.out | refine bs ?_ GE222.out | refine bs ?_ GE223.out⟩⟩
       ·rw [if_neg c33] at H
        exact absurd H (by simp)
      ·rw [if_neg c32] at H
       have c32b0 : decide (x21_2 < 3) = false := decide_eq_false c32
       clear c32
       replace H := Option.bind_eq_some_iff.mp H
       obtain ⟨t224, A510, H⟩ := H
       replace H : (some t224) = some r := H
       have A51 := Aside0.mk A510
       clear A510
       obtain rfl := Option.some.inj H
       go_wp2_with (first | ((with_reducible refine gate_callee (f := 29) rfl ?_); refine goesL_ (some 43) rfl rfl Try.func29 (by kernel_rfl) rfl #[.int .i64 x7_2] rfl (by (try simp only [List.map_toArray, List.map_cons, List.map_nil]); first | done | rfl | (simp only [List.length_drop, List.length_take]; rfl)) ?_; (with_reducible refine (num_Sqrt.calls k2 x7_2 t224 _ A51.out).mono ?_); rintro e w' ⟨rfl, ⟨nd, rfl⟩⟩; refine ⟨_, rfl, ?_⟩))
       go_ret
       exact ⟨by first | rfl | (simp [errW_none, errW_some] <;> rfl) | (simp [*, errW_none, errW_some] <;> rfl), by with_reducible repeat first | exact HB.out | apply ba | apply bn | apply bd | refine bs ?_ GE212.out | refine bs ?_ GE213.out | refine bs ?_ GE222.out | refine bs ?_ GE223.out⟩

end Go.Proofs.Yteojklacaecmpaa.P
