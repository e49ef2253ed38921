-- Written by wip/tools/xprint.py (this session's program, over the kit's print.py) for this seat.
import Derived.Test.YtijkaeonihgcfaaPx0
import Derived.Test.YtijkaeonihgcfaaPx1
import Derived.Test.YtijkaeonihgcfaaPx2
import Derived.Test.YtijkaeonihgcfaaPx4
import Derived.Test.YtijkaeonihgcfaaPx5
namespace Go.Proofs.Ytijkaeonihgcfaa.P
open Go.RowKit Go.Proofs.YtijkaeonihgcfaaW.PrintWords Go.Proofs.YtijkaeonihgcfaaW.PrintLast Go.Proofs.YtijkaeonihgcfaaW.PrintMore
attribute [local go_sem] max2_int min2_int max_two min_two max_three min_three max_four min_four   -- for this text's walks alone
set_option linter.unusedVariables false
set_option linter.unusedSimpArgs false

/-! ### mapsheetslaw07_NameOrders: function 5 -/
def mapsheetslaw07_NameOrders.j0 : Nat → ByteArray → ByteArray → ByteArray → Int → Bool → Option (Bool)
 | 0, _, _, _, _, _ => none
 | k + 1, x0, x1, x2, x7, x38 => if x38 = true then (none) else ((mapsheetslaw07_awake.f k).bind fun t272 => (if t272 = true then (if x7 > 0 then (some true) else ((name_Cmp.f k x1 x2).bind fun t273 => (if t273 > 0 then (some true) else ((name_Cmp.f k x0 x2).bind fun t274 => (some (decide (t274 ≤ 0))))))) else (none)))
def mapsheetslaw07_NameOrders.f (k : Nat) (a0 : ByteArray) (a1 : ByteArray) (a2 : ByteArray) : Option (Bool) := (mapsheetslaw07_light.f a0 a1 a2).bind fun t268 => (if t268 = true then ((name_Cmp.f k a0 a1).bind fun t270 => (if t270 < (-1) then (mapsheetslaw07_NameOrders.j0 k a0 a1 a2 t270 true) else (if t270 > 1 then (mapsheetslaw07_NameOrders.j0 k a0 a1 a2 t270 true) else (if ((t270 == 0) != (a0.toList == a1.toList)) = true then (mapsheetslaw07_NameOrders.j0 k a0 a1 a2 t270 true) else ((name_Cmp.f k a1 a0).bind fun t271 => (mapsheetslaw07_NameOrders.j0 k a0 a1 a2 t270 (t271 != (wrap64 (-t270))))))))) else ((mapsheetslaw07_awake.f k).bind fun t269 => (some t269)))
theorem mapsheetslaw07_NameOrders.mono_l : ∀ k, (∀ y0 y1 y2 y3 y4, LeO (mapsheetslaw07_NameOrders.j0 k y0 y1 y2 y3 y4) (mapsheetslaw07_NameOrders.j0 (k + 1) y0 y1 y2 y3 y4))
 | 0 => fun _ _ _ _ _ r h => by simp [mapsheetslaw07_NameOrders.j0] at h
 | k + 1 => by
  have ih0 := mapsheetslaw07_NameOrders.mono_l k
  ·intro y0 y1 y2 y3 y4
   unfold mapsheetslaw07_NameOrders.j0
   repeat' first
   | (with_reducible exact ih0 _ _ _ _ _)
   | (with_reducible exact mapsheetslaw07_awake.mono _)
   | (with_reducible exact name_Cmp.mono _ _ _)
   | (with_reducible exact LeO.refl _)
   | (with_reducible exact LeO.none _)
   | (with_reducible refine LeO.ite ?_ ?_)
   | (with_reducible refine LeO.bind ?_ (fun _ => ?_))
   | exact ih0 _ _ _ _ _
   | exact mapsheetslaw07_awake.mono _
   | exact name_Cmp.mono _ _ _
   | exact LeO.none _
   | refine LeO.ite ?_ ?_
   | refine LeO.bind ?_ (fun _ => ?_)
theorem mapsheetslaw07_NameOrders.mono : ∀ a0 a1 a2 k, LeO (mapsheetslaw07_NameOrders.f k a0 a1 a2) (mapsheetslaw07_NameOrders.f (k + 1) a0 a1 a2) := by
 intro a0 a1 a2 k
 have ih0 := mapsheetslaw07_NameOrders.mono_l k
 unfold mapsheetslaw07_NameOrders.f
 repeat' first
   | (with_reducible exact ih0 _ _ _ _ _)
   | (with_reducible exact mapsheetslaw07_awake.mono _)
   | (with_reducible exact name_Cmp.mono _ _ _)
   | (with_reducible exact LeO.refl _)
   | (with_reducible exact LeO.none _)
   | (with_reducible refine LeO.ite ?_ ?_)
   | (with_reducible refine LeO.bind ?_ (fun _ => ?_))
   | exact ih0 _ _ _ _ _
   | exact mapsheetslaw07_awake.mono _
   | exact name_Cmp.mono _ _ _
   | exact LeO.none _
   | refine LeO.ite ?_ ?_
   | refine LeO.bind ?_ (fun _ => ?_)
set_option maxHeartbeats 8000000 in
set_option maxRecDepth 100000 in
theorem mapsheetslaw07_NameOrders.calls (k : Nat) (a0 : ByteArray) (a1 : ByteArray) (a2 : ByteArray) (r : Bool) (w : World) (hml : ML w) (h : mapsheetslaw07_NameOrders.f k a0 a1 a2 = some r) :
  Calls Try.prog 5 #[.string a0, .string a1, .string a2] w fun e w' => e = .returned (.bool r) ∧ Below w.heap.size w w' := by
 have HM := Aside0.mk hml
 clear hml
 have HB := Aside0.mk (Below.refl w.heap.size w)
 have H : ((mapsheetslaw07_light.f a0 a1 a2).bind fun t268 => (if t268 = true then ((name_Cmp.f k a0 a1).bind fun t270 => (if t270 < (-1) then (mapsheetslaw07_NameOrders.j0 k a0 a1 a2 t270 true) else (if t270 > 1 then (mapsheetslaw07_NameOrders.j0 k a0 a1 a2 t270 true) else (if ((t270 == 0) != (a0.toList == a1.toList)) = true then (mapsheetslaw07_NameOrders.j0 k a0 a1 a2 t270 true) else ((name_Cmp.f k a1 a0).bind fun t271 => (mapsheetslaw07_NameOrders.j0 k a0 a1 a2 t270 (t271 != (wrap64 (-t270))))))))) else ((mapsheetslaw07_awake.f k).bind fun t269 => (some t269)))) = some r := h
 clear h
 replace H := Option.bind_eq_some_iff.mp H
 obtain ⟨t268, A40, H⟩ := H
 replace H : (if t268 = true then ((name_Cmp.f k a0 a1).bind fun t270 => (if t270 < (-1) then (mapsheetslaw07_NameOrders.j0 k a0 a1 a2 t270 true) else (if t270 > 1 then (mapsheetslaw07_NameOrders.j0 k a0 a1 a2 t270 true) else (if ((t270 == 0) != (a0.toList == a1.toList)) = true then (mapsheetslaw07_NameOrders.j0 k a0 a1 a2 t270 true) else ((name_Cmp.f k a1 a0).bind fun t271 => (mapsheetslaw07_NameOrders.j0 k a0 a1 a2 t270 (t271 != (wrap64 (-t270))))))))) else ((mapsheetslaw07_awake.f k).bind fun t269 => (some t269))) = some r := H
 have A4 := Aside0.mk A40
 clear A40
 by_cases c5 : t268 = true
 ·subst c5
  have H1 : ((name_Cmp.f k a0 a1).bind fun t270 => (if t270 < (-1) then (mapsheetslaw07_NameOrders.j0 k a0 a1 a2 t270 true) else (if t270 > 1 then (mapsheetslaw07_NameOrders.j0 k a0 a1 a2 t270 true) else (if ((t270 == 0) != (a0.toList == a1.toList)) = true then (mapsheetslaw07_NameOrders.j0 k a0 a1 a2 t270 true) else ((name_Cmp.f k a1 a0).bind fun t271 => (mapsheetslaw07_NameOrders.j0 k a0 a1 a2 t270 (t271 != (wrap64 (-t270))))))))) = some r := by rw [if_pos rfl] at H; exact H
  clear H
  have H := H1
  clear H1
  replace H := Option.bind_eq_some_iff.mp H
  obtain ⟨t270, A60, H⟩ := H
  replace H : (if t270 < (-1) then (mapsheetslaw07_NameOrders.j0 k a0 a1 a2 t270 true) else (if t270 > 1 then (mapsheetslaw07_NameOrders.j0 k a0 a1 a2 t270 true) else (if ((t270 == 0) != (a0.toList == a1.toList)) = true then (mapsheetslaw07_NameOrders.j0 k a0 a1 a2 t270 true) else ((name_Cmp.f k a1 a0).bind fun t271 => (mapsheetslaw07_NameOrders.j0 k a0 a1 a2 t270 (t271 != (wrap64 (-t270)))))))) = some r := H
  have A6 := Aside0.mk A60
  clear A60
  have HC7 := Aside0.mk H
  clear H
  go_enter Try.func5, Try.ntmps5
  go_upto_region 4 with (first | ((with_reducible refine gate_callee (f := 10) rfl ?_); refine goesL_ (some 11) rfl rfl Try.func10 (by kernel_rfl) rfl #[.string a0, .string a1, .string a2] rfl (by (try simp only [List.map_toArray, List.map_cons, List.map_nil]); first | done | rfl | (simp only [List.length_drop, List.length_take]; rfl)) ?_; (with_reducible refine (mapsheetslaw07_light.calls a0 a1 a2 true _ A4.out).mono ?_); rintro e w' ⟨rfl, ⟨nd, rfl⟩⟩; refine ⟨_, rfl, ?_⟩) | ((with_reducible refine gate_callee (f := 17) rfl ?_); refine goesL_ (some 16) rfl rfl Try.func17 (by kernel_rfl) rfl #[.string a0, .string a1] rfl (by (try simp only [List.map_toArray, List.map_cons, List.map_nil]); first | done | rfl | (simp only [List.length_drop, List.length_take]; rfl)) ?_; (with_reducible refine (name_Cmp.calls k a0 a1 t270 _ (ML.below HM.out (by repeat (first | (with_reducible first | exact HB.out | apply below_alloc | apply pw_below_drewN | apply below_drew1) | exact HB.out))) A6.out).mono ?_); rintro e w8 ⟨rfl, hb⟩; refine ⟨_, rfl, ?_⟩; have n0_ := Aside0.mk (below_step (by repeat (first | (with_reducible first | exact HB.out | apply below_alloc | apply pw_below_drewN | apply below_drew1) | exact HB.out)) hb); clear HB; have HB := n0_; clear n0_; (try clear hb); (try clear hb2); (try clear hk); (try clear hi)))
  (try simp only [Act.put, List.setIfInBounds_toArray, List.set_cons_zero, List.set_cons_succ])
  go_cut [38] (fun v38 wc => ∃ (kq : Nat) (x38_6 : Bool), v38 = .bool x38_6 ∧ Aside0 (mapsheetslaw07_NameOrders.j0 kq a0 a1 a2 t270 x38_6 = some r) ∧ Aside0 (kq ≤ k) ∧ Aside0 (Below w.heap.size w wc))
  case first =>
   have H := HC7.out
   clear HC7
   by_cases c9 : t270 < (-1)
   ·rw [if_pos c9] at H
    have c9b0 : decide (t270 < (-1)) = true := decide_eq_true c9
    clear c9
    (first | rw [c9b0] | (simp only [i64_w, i32_w]; rw [c9b0]) | skip)
    have H' := Aside0.mk H
    clear H
    go_wp2
    go_meet
    case rel => exact ⟨_, (true), (by first | rfl | (simp; done) | (simp [*]; done)), H', ⟨by first | omega | exact Nat.le_refl _⟩, ⟨by repeat (first | (with_reducible first | exact HB.out | apply below_alloc | apply pw_below_drewN | apply below_drew1) | exact HB.out)⟩⟩
   ·rw [if_neg c9] at H
    have c9b0 : decide (t270 < (-1)) = false := decide_eq_false c9
    clear c9
    (first | rw [c9b0] | (simp only [i64_w, i32_w]; rw [c9b0]) | skip)
    by_cases c10 : t270 > 1
    ·rw [if_pos c10] at H
     have c10b0 : decide (1 < t270) = true := decide_eq_true c10
     clear c10
     have H' := Aside0.mk H
     clear H
     go_wp2
     go_meet
     case rel => exact ⟨_, (true), (by first | rfl | (simp; done) | (simp [*]; done)), H', ⟨by first | omega | exact Nat.le_refl _⟩, ⟨by repeat (first | (with_reducible first | exact HB.out | apply below_alloc | apply pw_below_drewN | apply below_drew1) | exact HB.out)⟩⟩
    ·rw [if_neg c10] at H
     have c10b0 : decide (1 < t270) = false := decide_eq_false c10
     clear c10
     by_cases c11 : ((t270 == 0) != (a0.toList == a1.toList)) = true
     ·rw [if_pos c11] at H
      have c11b0 : ((t270 == 0) != (a0.toList == a1.toList)) = true := c11
      (try (have c11b1 : decide ((t270 == 0) = (a0.toList == a1.toList)) = false := by simpa using c11))
      (try (have c11b2 : ((t270 == 0) == (a0.toList == a1.toList)) = false := by simpa using c11))
      (try (have c11b3 : ¬ ((t270 == 0) = (a0.toList == a1.toList)) := by simpa using c11))
      clear c11
      have H' := Aside0.mk H
      clear H
      go_wp2
      go_meet
      case rel => exact ⟨_, (true), (by first | rfl | (simp; done) | (simp [*]; done)), H', ⟨by first | omega | exact Nat.le_refl _⟩, ⟨by repeat (first | (with_reducible first | exact HB.out | apply below_alloc | apply pw_below_drewN | apply below_drew1) | exact HB.out)⟩⟩
     ·rw [if_neg c11] at H
      have c11b0 : ((t270 == 0) != (a0.toList == a1.toList)) = false := by simpa using c11
      (try (have c11b1 : decide ((t270 == 0) = (a0.toList == a1.toList)) = true := by simpa using c11))
      (try (have c11b2 : ((t270 == 0) == (a0.toList == a1.toList)) = true := by simpa using c11))
      clear c11
      replace H := Option.bind_eq_some_iff.mp H
      obtain ⟨t271, A120, H⟩ := H
      replace H : (mapsheetslaw07_NameOrders.j0 k a0 a1 a2 t270 (t271 != (wrap64 (-t270)))) = some r := H
      have A12 := Aside0.mk A120
      clear A120
      have H' := Aside0.mk H
      clear H
      go_wp2_with (first | (go_at_call 17; (with_reducible refine (name_Cmp.calls k a1 a0 t271 _ (ML.below HM.out (by repeat (first | (with_reducible first | exact HB.out | apply below_alloc | apply pw_below_drewN | apply below_drew1) | exact HB.out))) A12.out).mono ?_); rintro e w13 ⟨rfl, hb⟩; have n0_ := Aside0.mk (below_step (by repeat (first | (with_reducible first | exact HB.out | apply below_alloc | apply pw_below_drewN | apply below_drew1) | exact HB.out)) hb); clear HB; have HB := n0_; clear n0_; (try clear hb); (try clear hb2); (try clear hk); (try clear hi)))
      go_meet
      case rel => exact ⟨_, ((t271 != (wrap64 (-t270)))), (by first | rfl | (simp; done) | (simp [*]; done)), H', ⟨by first | omega | exact Nat.le_refl _⟩, ⟨by repeat (first | (with_reducible first | exact HB.out | apply below_alloc | apply pw_below_drewN | apply below_drew1) | exact HB.out)⟩⟩
  case rest =>
   clear HC7
   try clear c1
   try clear p2
   try clear c5
   try clear p6
   try clear c9
   try clear c9b0
   try clear c10
   try clear c10b0
   try clear c11
   try clear c11b0
   try clear c11b1
   try clear c11b2
   obtain ⟨kq, x38_6, rfl, HA, HJ6, HB⟩ := hcut
   cases kq with
   | zero => exact absurd HA.out (by simp [mapsheetslaw07_NameOrders.j0])
   | succ kj6 =>
    have H := HA.out
    clear HA
    simp only [mapsheetslaw07_NameOrders.j0] at H
    by_cases c14 : x38_6 = true
    ·subst c14
     have H1 : (none) = some r := by rw [if_pos rfl] at H; exact H
     clear H
     have H := H1
     clear H1
     exact absurd H (by simp)
    ·replace c14 := Bool.eq_false_iff.mpr c14
     subst c14
     have H1 : ((mapsheetslaw07_awake.f kj6).bind fun t272 => (if t272 = true then (if t270 > 0 then (some true) else ((name_Cmp.f kj6 a1 a2).bind fun t273 => (if t273 > 0 then (some true) else ((name_Cmp.f kj6 a0 a2).bind fun t274 => (some (decide (t274 ≤ 0))))))) else (none))) = some r := by rw [if_neg (show ¬ (false = true) by decide)] at H; exact H
     clear H
     have H := H1
     clear H1
     replace H := Option.bind_eq_some_iff.mp H
     obtain ⟨t272, A150, H⟩ := H
     replace H : (if t272 = true then (if t270 > 0 then (some true) else ((name_Cmp.f kj6 a1 a2).bind fun t273 => (if t273 > 0 then (some true) else ((name_Cmp.f kj6 a0 a2).bind fun t274 => (some (decide (t274 ≤ 0))))))) else (none)) = some r := H
     have A15 := Aside0.mk A150
     clear A150
     by_cases c16 : t272 = true
     ·subst c16
      have H1 : (if t270 > 0 then (some true) else ((name_Cmp.f kj6 a1 a2).bind fun t273 => (if t273 > 0 then (some true) else ((name_Cmp.f kj6 a0 a2).bind fun t274 => (some (decide (t274 ≤ 0))))))) = some r := by rw [if_pos rfl] at H; exact H
      clear H
      have H := H1
      clear H1
      by_cases c17 : t270 > 0
      ·rw [if_pos c17] at H
       have c17b0 : decide (0 < t270) = true := decide_eq_true c17
       clear c17
       obtain rfl := Option.some.inj H
       go_wp2_with (first | ((with_reducible refine gate_callee (f := 11) rfl ?_); refine goesL_ (some 39) rfl rfl Try.func11 (by kernel_rfl) rfl #[] rfl (by (try simp only [List.map_toArray, List.map_cons, List.map_nil]); first | done | rfl | (simp only [List.length_drop, List.length_take]; rfl)) ?_; (with_reducible refine (mapsheetslaw07_awake.calls kj6  true _ (ML.below HM.out (by repeat (first | (with_reducible first | exact HB.out | apply below_alloc | apply pw_below_drewN | apply below_drew1) | exact HB.out))) A15.out).mono ?_); rintro e w18 ⟨rfl, hb⟩; refine ⟨_, rfl, ?_⟩; have n0_ := Aside0.mk (below_step (by repeat (first | (with_reducible first | exact HB.out | apply below_alloc | apply pw_below_drewN | apply below_drew1) | exact HB.out)) hb); clear HB; have HB := n0_; clear n0_; (try clear hb); (try clear hb2); (try clear hk); (try clear hi)))
       go_ret
       exact ⟨by first | rfl | (simp [errW_none, errW_some] <;> rfl) | (simp [*, errW_none, errW_some] <;> rfl), by repeat (first | (with_reducible first | exact HB.out | apply below_alloc | apply pw_below_drewN | apply below_drew1) | exact HB.out)⟩
      ·rw [if_neg c17] at H
       have c17b0 : decide (0 < t270) = false := decide_eq_false c17
       clear c17
       replace H := Option.bind_eq_some_iff.mp H
       obtain ⟨t273, A190, H⟩ := H
       replace H : (if t273 > 0 then (some true) else ((name_Cmp.f kj6 a0 a2).bind fun t274 => (some (decide (t274 ≤ 0))))) = some r := H
       have A19 := Aside0.mk A190
       clear A190
       by_cases c20 : t273 > 0
       ·rw [if_pos c20] at H
        have c20b0 : decide (0 < t273) = true := decide_eq_true c20
        clear c20
        obtain rfl := Option.some.inj H
        go_wp2_with (first | ((with_reducible refine gate_callee (f := 11) rfl ?_); refine goesL_ (some 39) rfl rfl Try.func11 (by kernel_rfl) rfl #[] rfl (by (try simp only [List.map_toArray, List.map_cons, List.map_nil]); first | done | rfl | (simp only [List.length_drop, List.length_take]; rfl)) ?_; (with_reducible refine (mapsheetslaw07_awake.calls kj6  true _ (ML.below HM.out (by repeat (first | (with_reducible first | exact HB.out | apply below_alloc | apply pw_below_drewN | apply below_drew1) | exact HB.out))) A15.out).mono ?_); rintro e w21 ⟨rfl, hb⟩; refine ⟨_, rfl, ?_⟩; have n0_ := Aside0.mk (below_step (by repeat (first | (with_reducible first | exact HB.out | apply below_alloc | apply pw_below_drewN | apply below_drew1) | exact HB.out)) hb); clear HB; have HB := n0_; clear n0_; (try clear hb); (try clear hb2); (try clear hk); (try clear hi)) | (go_at_call 17; (with_reducible refine (name_Cmp.calls kj6 a1 a2 t273 _ (ML.below HM.out (by repeat (first | (with_reducible first | exact HB.out | apply below_alloc | apply pw_below_drewN | apply below_drew1) | exact HB.out))) A19.out).mono ?_); rintro e w22 ⟨rfl, hb⟩; have n0_ := Aside0.mk (below_step (by repeat (first | (with_reducible first | exact HB.out | apply below_alloc | apply pw_below_drewN | apply below_drew1) | exact HB.out)) hb); clear HB; have HB := n0_; clear n0_; (try clear hb); (try clear hb2); (try clear hk); (try clear hi)))
        go_ret
        exact ⟨by first | rfl | (simp [errW_none, errW_some] <;> rfl) | (simp [*, errW_none, errW_some] <;> rfl), by repeat (first | (with_reducible first | exact HB.out | apply below_alloc | apply pw_below_drewN | apply below_drew1) | exact HB.out)⟩
       ·rw [if_neg c20] at H
        have c20b0 : decide (0 < t273) = false := decide_eq_false c20
        clear c20
        replace H := Option.bind_eq_some_iff.mp H
        obtain ⟨t274, A230, H⟩ := H
        replace H : (some (decide (t274 ≤ 0))) = some r := H
        have A23 := Aside0.mk A230
        clear A230
        obtain rfl := Option.some.inj H
        go_wp2_with (first | ((with_reducible refine gate_callee (f := 11) rfl ?_); refine goesL_ (some 39) rfl rfl Try.func11 (by kernel_rfl) rfl #[] rfl (by (try simp only [List.map_toArray, List.map_cons, List.map_nil]); first | done | rfl | (simp only [List.length_drop, List.length_take]; rfl)) ?_; (with_reducible refine (mapsheetslaw07_awake.calls kj6  true _ (ML.below HM.out (by repeat (first | (with_reducible first | exact HB.out | apply below_alloc | apply pw_below_drewN | apply below_drew1) | exact HB.out))) A15.out).mono ?_); rintro e w24 ⟨rfl, hb⟩; refine ⟨_, rfl, ?_⟩; have n0_ := Aside0.mk (below_step (by repeat (first | (with_reducible first | exact HB.out | apply below_alloc | apply pw_below_drewN | apply below_drew1) | exact HB.out)) hb); clear HB; have HB := n0_; clear n0_; (try clear hb); (try clear hb2); (try clear hk); (try clear hi)) | (go_at_call 17; (with_reducible refine (name_Cmp.calls kj6 a1 a2 t273 _ (ML.below HM.out (by repeat (first | (with_reducible first | exact HB.out | apply below_alloc | apply pw_below_drewN | apply below_drew1) | exact HB.out))) A19.out).mono ?_); rintro e w25 ⟨rfl, hb⟩; have n0_ := Aside0.mk (below_step (by repeat (first | (with_reducible first | exact HB.out | apply below_alloc | apply pw_below_drewN | apply below_drew1) | exact HB.out)) hb); clear HB; have HB := n0_; clear n0_; (try clear hb); (try clear hb2); (try clear hk); (try clear hi)) | (go_at_call 17; (with_reducible refine (name_Cmp.calls kj6 a0 a2 t274 _ (ML.below HM.out (by repeat (first | (with_reducible first | exact HB.out | apply below_alloc | apply pw_below_drewN | apply below_drew1) | exact HB.out))) A23.out).mono ?_); rintro e w26 ⟨rfl, hb⟩; have n0_ := Aside0.mk (below_step (by repeat (first | (with_reducible first | exact HB.out | apply below_alloc | apply pw_below_drewN | apply below_drew1) | exact HB.out)) hb); clear HB; have HB := n0_; clear n0_; (try clear hb); (try clear hb2); (try clear hk); (try clear hi)))
        go_ret
        exact ⟨by first | rfl | (simp [errW_none, errW_some] <;> rfl) | (simp [*, errW_none, errW_some] <;> rfl), by repeat (first | (with_reducible first | exact HB.out | apply below_alloc | apply pw_below_drewN | apply below_drew1) | exact HB.out)⟩
     ·replace c16 := Bool.eq_false_iff.mpr c16
      subst c16
      have H1 : (none) = some r := by rw [if_neg (show ¬ (false = true) by decide)] at H; exact H
      clear H
      have H := H1
      clear H1
      exact absurd H (by simp)
 ·replace c5 := Bool.eq_false_iff.mpr c5
  subst c5
  have H1 : ((mapsheetslaw07_awake.f k).bind fun t269 => (some t269)) = some r := by rw [if_neg (show ¬ (false = true) by decide)] at H; exact H
  clear H
  have H := H1
  clear H1
  replace H := Option.bind_eq_some_iff.mp H
  obtain ⟨t269, A270, H⟩ := H
  replace H : (some t269) = some r := H
  have A27 := Aside0.mk A270
  clear A270
  obtain rfl := Option.some.inj H
  go_enter Try.func5, Try.ntmps5
  go_wp2_with (first | ((with_reducible refine gate_callee (f := 10) rfl ?_); refine goesL_ (some 11) rfl rfl Try.func10 (by kernel_rfl) rfl #[.string a0, .string a1, .string a2] rfl (by (try simp only [List.map_toArray, List.map_cons, List.map_nil]); first | done | rfl | (simp only [List.length_drop, List.length_take]; rfl)) ?_; (with_reducible refine (mapsheetslaw07_light.calls a0 a1 a2 false _ A4.out).mono ?_); rintro e w' ⟨rfl, ⟨nd, rfl⟩⟩; refine ⟨_, rfl, ?_⟩) | ((with_reducible refine gate_callee (f := 11) rfl ?_); refine goesL_ (some 13) rfl rfl Try.func11 (by kernel_rfl) rfl #[] rfl (by (try simp only [List.map_toArray, List.map_cons, List.map_nil]); first | done | rfl | (simp only [List.length_drop, List.length_take]; rfl)) ?_; (with_reducible refine (mapsheetslaw07_awake.calls k  t269 _ (ML.below HM.out (by repeat (first | (with_reducible first | exact HB.out | apply below_alloc | apply pw_below_drewN | apply below_drew1) | exact HB.out))) A27.out).mono ?_); rintro e w28 ⟨rfl, hb⟩; refine ⟨_, rfl, ?_⟩; have n0_ := Aside0.mk (below_step (by repeat (first | (with_reducible first | exact HB.out | apply below_alloc | apply pw_below_drewN | apply below_drew1) | exact HB.out)) hb); clear HB; have HB := n0_; clear n0_; (try clear hb); (try clear hb2); (try clear hk); (try clear hi)))
  go_ret
  exact ⟨by first | rfl | (simp [errW_none, errW_some] <;> rfl) | (simp [*, errW_none, errW_some] <;> rfl), by repeat (first | (with_reducible first | exact HB.out | apply below_alloc | apply pw_below_drewN | apply below_drew1) | exact HB.out)⟩

/-- THE ONE PURE STATEMENT of mapsheetslaw07_NameOrders: yours. -/
def mapsheetslaw07_NameOrders.Pure : Prop := ∀ (a0 : ByteArray) (a1 : ByteArray) (a2 : ByteArray), a0.size ≤ 140737488351232 → a1.size ≤ 140737488351232 → a2.size ≤ 140737488351232 → ∃ k, mapsheetslaw07_NameOrders.f k a0 a1 a2 = some true
theorem mapsheetslaw07_NameOrders.walk (P : mapsheetslaw07_NameOrders.Pure) (a0 : ByteArray) (a1 : ByteArray) (a2 : ByteArray) (w : World) (w0 : a0.size ≤ 140737488351232) (w1 : a1.size ≤ 140737488351232) (w2 : a2.size ≤ 140737488351232) (hml : ML w) :
  Calls Try.prog 5 #[.string a0, .string a1, .string a2] w fun e w' => e = .returned (.bool true) ∧ Below w.heap.size w w' := by
 obtain ⟨k, h⟩ := P a0 a1 a2 w0 w1 w2
 refine (mapsheetslaw07_NameOrders.calls k a0 a1 a2 true w hml h).mono ?_
 rintro e w' ⟨rfl, hd⟩
 exact ⟨rfl, hd⟩

end Go.Proofs.Ytijkaeonihgcfaa.P
