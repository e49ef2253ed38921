-- Written by wip/tools/xprint.py (this session's program, over the kit's print.py) for this seat.
import Derived.Test.YtaehaehgngafnaaPx0
import Derived.Test.YtaehaehgngafnaaPx3
import Derived.Test.YtaehaehgngafnaaPx4
import Derived.Test.YtaehaehgngafnaaPx6
namespace Go.Proofs.Ytaehaehgngafnaa.P
open Go.RowKit Go.Proofs.YtaehaehgngafnaaW.PrintWords Go.Proofs.YtaehaehgngafnaaW.PrintLast Go.Proofs.YtaehaehgngafnaaW.PrintMore
attribute [local go_sem] max2_int min2_int max_two min_two max_three min_three max_four min_four   -- for this text's walks alone
set_option linter.unusedVariables false
set_option linter.unusedSimpArgs false

/-! ### mapsheetslaw11_off: function 26 -/
def mapsheetslaw11_off.f (k : Nat) (a0 : Int) (a1 : Int) : Option (Int) := (series_Sin.f k a0).bind fun t241 => (if (wrap64 (t241 - a1)) < 0 then (some (wrap64 (-(wrap64 (t241 - a1))))) else (some (wrap64 (t241 - a1))))
theorem mapsheetslaw11_off.mono : ∀ a0 a1 k, LeO (mapsheetslaw11_off.f k a0 a1) (mapsheetslaw11_off.f (k + 1) a0 a1) := by
  intro a0 a1 k
  unfold mapsheetslaw11_off.f
  repeat' first
      | (with_reducible exact series_Sin.mono _ _)
      | (with_reducible exact LeO.refl _)
      | (with_reducible exact LeO.none _)
      | (with_reducible refine LeO.ite ?_ ?_)
      | (with_reducible refine LeO.bind ?_ (fun _ => ?_))
      | exact series_Sin.mono _ _
      | exact LeO.none _
      | refine LeO.ite ?_ ?_
      | refine LeO.bind ?_ (fun _ => ?_)
set_option maxHeartbeats 8000000 in
set_option maxRecDepth 100000 in
theorem mapsheetslaw11_off.calls (k : Nat) (a0 : Int) (a1 : Int) (r : Int) (w : World) (h : mapsheetslaw11_off.f k a0 a1 = some r) :
    Calls Try.prog 26 #[.int .i64 a0, .int .i64 a1] w fun e w' => e = .returned (.int .i64 r) ∧ Below w.heap.size w w' := by
  have HB := Aside0.mk (Below.refl w.heap.size w)
  have H : ((series_Sin.f k a0).bind fun t241 => (if (wrap64 (t241 - a1)) < 0 then (some (wrap64 (-(wrap64 (t241 - a1))))) else (some (wrap64 (t241 - a1))))) = some r := h
  clear h
  replace H := Option.bind_eq_some_iff.mp H
  obtain ⟨t241, A30, H⟩ := H
  replace H : (if (wrap64 (t241 - a1)) < 0 then (some (wrap64 (-(wrap64 (t241 - a1))))) else (some (wrap64 (t241 - a1)))) = some r := H
  have A3 := Aside0.mk A30
  clear A30
  by_cases c4 : (wrap64 (t241 - a1)) < 0
  · rw [if_pos c4] at H
    have c4b0 : decide ((wrap64 (t241 - a1)) < 0) = true := decide_eq_true c4
    clear c4
    obtain rfl := Option.some.inj H
    go_enter Try.func26, Try.ntmps26
    go_wp2_with (first | ((with_reducible refine gate_callee (f := 14) rfl ?_); refine goesL_ (some 7) rfl rfl Try.func14 (by kernel_rfl) rfl #[.int .i64 a0] rfl (by (try simp only [List.map_toArray, List.map_cons, List.map_nil]); first | done | rfl | (simp only [List.length_drop, List.length_take]; rfl)) ?_; (with_reducible refine (series_Sin.calls k a0 t241 _ A3.out).mono ?_); rintro e w5 ⟨rfl, hb⟩; refine ⟨_, rfl, ?_⟩; have n0_ := Aside0.mk (below_step (by repeat (first | (with_reducible first | exact HB.out | apply below_alloc | apply pw_below_drewN | apply below_drew1) | exact HB.out)) hb); clear HB; have HB := n0_; clear n0_; (try clear hb); (try clear hb2); (try clear hk); (try clear hi)))
    go_ret
    exact ⟨by first | rfl | (simp [errW_none, errW_some] <;> rfl) | (simp [*, errW_none, errW_some] <;> rfl), by repeat (first | (with_reducible first | exact HB.out | apply below_alloc | apply pw_below_drewN | apply below_drew1) | exact HB.out)⟩
  · rw [if_neg c4] at H
    have c4b0 : decide ((wrap64 (t241 - a1)) < 0) = false := decide_eq_false c4
    clear c4
    obtain rfl := Option.some.inj H
    go_enter Try.func26, Try.ntmps26
    go_wp2_with (first | ((with_reducible refine gate_callee (f := 14) rfl ?_); refine goesL_ (some 7) rfl rfl Try.func14 (by kernel_rfl) rfl #[.int .i64 a0] rfl (by (try simp only [List.map_toArray, List.map_cons, List.map_nil]); first | done | rfl | (simp only [List.length_drop, List.length_take]; rfl)) ?_; (with_reducible refine (series_Sin.calls k a0 t241 _ A3.out).mono ?_); rintro e w6 ⟨rfl, hb⟩; refine ⟨_, rfl, ?_⟩; have n0_ := Aside0.mk (below_step (by repeat (first | (with_reducible first | exact HB.out | apply below_alloc | apply pw_below_drewN | apply below_drew1) | exact HB.out)) hb); clear HB; have HB := n0_; clear n0_; (try clear hb); (try clear hb2); (try clear hk); (try clear hi)))
    go_ret
    exact ⟨by first | rfl | (simp [errW_none, errW_some] <;> rfl) | (simp [*, errW_none, errW_some] <;> rfl), by repeat (first | (with_reducible first | exact HB.out | apply below_alloc | apply pw_below_drewN | apply below_drew1) | exact HB.out)⟩

/-! ### mapsheetslaw11_SeriesNearest: function 8 -/
mutual
def mapsheetslaw11_SeriesNearest.j0 : Nat → Int → Int → Bool → Option (Bool)
  | 0, _, _, _ => none
  | k + 1, x0, x1, x24 => if x24 = true then ((mapsheetslaw11_awake.f k).bind fun t242 => (some t242)) else ((series_Sin.f k x0).bind fun t243 => ((series_Asin.f k t243).bind fun bt244 => ((series_Asin.f k x1).bind fun bt246 => ((series_Asin.f k (wrap64 (-x1))).bind fun bt248 => (if bt244.2 = 0 then (if bt246.2 = 0 then (if bt248.2 = 0 then (if bt248.1 = (wrap64 (-bt246.1)) then (if bt246.1 < (-324000) then (mapsheetslaw11_SeriesNearest.j1 k x0 x1 bt244.1 bt246.1 true) else (if bt246.1 > 324000 then (mapsheetslaw11_SeriesNearest.j1 k x0 x1 bt244.1 bt246.1 true) else (if bt244.1 < (-324000) then (mapsheetslaw11_SeriesNearest.j1 k x0 x1 bt244.1 bt246.1 true) else (mapsheetslaw11_SeriesNearest.j1 k x0 x1 bt244.1 bt246.1 (decide (bt244.1 > 324000)))))) else (mapsheetslaw11_SeriesNearest.j1 k x0 x1 bt244.1 bt246.1 true)) else (mapsheetslaw11_SeriesNearest.j1 k x0 x1 bt244.1 bt246.1 true)) else (mapsheetslaw11_SeriesNearest.j1 k x0 x1 bt244.1 bt246.1 true)) else (mapsheetslaw11_SeriesNearest.j1 k x0 x1 bt244.1 bt246.1 true))))))
def mapsheetslaw11_SeriesNearest.j1 : Nat → Int → Int → Int → Int → Bool → Option (Bool)
  | 0, _, _, _, _, _ => none
  | k + 1, x0, x1, x5, x7, x74 => if x74 = true then (none) else ((series_Sin.f k x5).bind fun t250 => ((series_Sin.f k x0).bind fun t251 => (if t250 = t251 then ((mapsheetslaw11_abs.f x5).bind fun t252 => ((mapsheetslaw11_abs.f x0).bind fun t253 => (mapsheetslaw11_SeriesNearest.j2 k x1 x7 (decide (t252 > t253))))) else (mapsheetslaw11_SeriesNearest.j2 k x1 x7 true))))
def mapsheetslaw11_SeriesNearest.j2 : Nat → Int → Int → Bool → Option (Bool)
  | 0, _, _, _ => none
  | k + 1, x1, x7, x86 => if x86 = true then (none) else (if x7 = 324000 then (if x7 = (-324000) then ((mapsheetslaw11_awake.f k).bind fun t254 => (some t254)) else ((mapsheetslaw11_off.f k (wrap64 (x7 - 1)) x1).bind fun t255 => ((mapsheetslaw11_off.f k x7 x1).bind fun t256 => (if t255 ≥ t256 then ((mapsheetslaw11_awake.f k).bind fun t257 => (some t257)) else (none))))) else ((mapsheetslaw11_off.f k (wrap64 (x7 + 1)) x1).bind fun t258 => ((mapsheetslaw11_off.f k x7 x1).bind fun t259 => (if t258 ≥ t259 then (if x7 = (-324000) then ((mapsheetslaw11_awake.f k).bind fun t260 => (some t260)) else ((mapsheetslaw11_off.f k (wrap64 (x7 - 1)) x1).bind fun t261 => ((mapsheetslaw11_off.f k x7 x1).bind fun t262 => (if t261 ≥ t259 then ((mapsheetslaw11_awake.f k).bind fun t263 => (some t263)) else (none))))) else (none)))))
end
def mapsheetslaw11_SeriesNearest.f (k : Nat) (a0 : Int) (a1 : Int) : Option (Bool) := if a0 < (-324000) then (mapsheetslaw11_SeriesNearest.j0 k a0 a1 true) else (if a0 > 324000 then (mapsheetslaw11_SeriesNearest.j0 k a0 a1 true) else (if a1 < (-1073741824) then (mapsheetslaw11_SeriesNearest.j0 k a0 a1 true) else (mapsheetslaw11_SeriesNearest.j0 k a0 a1 (decide (a1 > 1073741824)))))
theorem mapsheetslaw11_SeriesNearest.mono_l : ∀ k, (∀ y0 y1 y2, LeO (mapsheetslaw11_SeriesNearest.j0 k y0 y1 y2) (mapsheetslaw11_SeriesNearest.j0 (k + 1) y0 y1 y2)) ∧ (∀ y0 y1 y2 y3 y4, LeO (mapsheetslaw11_SeriesNearest.j1 k y0 y1 y2 y3 y4) (mapsheetslaw11_SeriesNearest.j1 (k + 1) y0 y1 y2 y3 y4)) ∧ (∀ y0 y1 y2, LeO (mapsheetslaw11_SeriesNearest.j2 k y0 y1 y2) (mapsheetslaw11_SeriesNearest.j2 (k + 1) y0 y1 y2))
  | 0 => ⟨fun _ _ _ r h => by simp [mapsheetslaw11_SeriesNearest.j0] at h, fun _ _ _ _ _ r h => by simp [mapsheetslaw11_SeriesNearest.j1] at h, fun _ _ _ r h => by simp [mapsheetslaw11_SeriesNearest.j2] at h⟩
  | k + 1 => by
    obtain ⟨ih0, ih1, ih2⟩ := mapsheetslaw11_SeriesNearest.mono_l k
    refine ⟨?_, ?_, ?_⟩
    · intro y0 y1 y2
      unfold mapsheetslaw11_SeriesNearest.j0
      repeat' first
      | (with_reducible exact ih0 _ _ _)
      | (with_reducible exact ih1 _ _ _ _ _)
      | (with_reducible exact ih2 _ _ _)
      | (with_reducible exact mapsheetslaw11_awake.mono _)
      | (with_reducible exact mapsheetslaw11_off.mono _ _ _)
      | (with_reducible exact series_Asin.mono _ _)
      | (with_reducible exact series_Sin.mono _ _)
      | (with_reducible exact LeO.refl _)
      | (with_reducible exact LeO.none _)
      | (with_reducible refine LeO.ite ?_ ?_)
      | (with_reducible refine LeO.bind ?_ (fun _ => ?_))
      | exact ih0 _ _ _
      | exact ih1 _ _ _ _ _
      | exact ih2 _ _ _
      | exact mapsheetslaw11_awake.mono _
      | exact mapsheetslaw11_off.mono _ _ _
      | exact series_Asin.mono _ _
      | exact series_Sin.mono _ _
      | exact LeO.none _
      | refine LeO.ite ?_ ?_
      | refine LeO.bind ?_ (fun _ => ?_)
    · intro y0 y1 y2 y3 y4
      unfold mapsheetslaw11_SeriesNearest.j1
      repeat' first
      | (with_reducible exact ih0 _ _ _)
      | (with_reducible exact ih1 _ _ _ _ _)
      | (with_reducible exact ih2 _ _ _)
      | (with_reducible exact mapsheetslaw11_awake.mono _)
      | (with_reducible exact mapsheetslaw11_off.mono _ _ _)
      | (with_reducible exact series_Asin.mono _ _)
      | (with_reducible exact series_Sin.mono _ _)
      | (with_reducible exact LeO.refl _)
      | (with_reducible exact LeO.none _)
      | (with_reducible refine LeO.ite ?_ ?_)
      | (with_reducible refine LeO.bind ?_ (fun _ => ?_))
      | exact ih0 _ _ _
      | exact ih1 _ _ _ _ _
      | exact ih2 _ _ _
      | exact mapsheetslaw11_awake.mono _
      | exact mapsheetslaw11_off.mono _ _ _
      | exact series_Asin.mono _ _
      | exact series_Sin.mono _ _
      | exact LeO.none _
      | refine LeO.ite ?_ ?_
      | refine LeO.bind ?_ (fun _ => ?_)
    · intro y0 y1 y2
      unfold mapsheetslaw11_SeriesNearest.j2
      repeat' first
      | (with_reducible exact ih0 _ _ _)
      | (with_reducible exact ih1 _ _ _ _ _)
      | (with_reducible exact ih2 _ _ _)
      | (with_reducible exact mapsheetslaw11_awake.mono _)
      | (with_reducible exact mapsheetslaw11_off.mono _ _ _)
      | (with_reducible exact series_Asin.mono _ _)
      | (with_reducible exact series_Sin.mono _ _)
      | (with_reducible exact LeO.refl _)
      | (with_reducible exact LeO.none _)
      | (with_reducible refine LeO.ite ?_ ?_)
      | (with_reducible refine LeO.bind ?_ (fun _ => ?_))
      | exact ih0 _ _ _
      | exact ih1 _ _ _ _ _
      | exact ih2 _ _ _
      | exact mapsheetslaw11_awake.mono _
      | exact mapsheetslaw11_off.mono _ _ _
      | exact series_Asin.mono _ _
      | exact series_Sin.mono _ _
      | exact LeO.none _
      | refine LeO.ite ?_ ?_
      | refine LeO.bind ?_ (fun _ => ?_)
theorem mapsheetslaw11_SeriesNearest.mono : ∀ a0 a1 k, LeO (mapsheetslaw11_SeriesNearest.f k a0 a1) (mapsheetslaw11_SeriesNearest.f (k + 1) a0 a1) := by
  intro a0 a1 k
  obtain ⟨ih0, ih1, ih2⟩ := mapsheetslaw11_SeriesNearest.mono_l k
  unfold mapsheetslaw11_SeriesNearest.f
  repeat' first
      | (with_reducible exact ih0 _ _ _)
      | (with_reducible exact ih1 _ _ _ _ _)
      | (with_reducible exact ih2 _ _ _)
      | (with_reducible exact mapsheetslaw11_awake.mono _)
      | (with_reducible exact mapsheetslaw11_off.mono _ _ _)
      | (with_reducible exact series_Asin.mono _ _)
      | (with_reducible exact series_Sin.mono _ _)
      | (with_reducible exact LeO.refl _)
      | (with_reducible exact LeO.none _)
      | (with_reducible refine LeO.ite ?_ ?_)
      | (with_reducible refine LeO.bind ?_ (fun _ => ?_))
      | exact ih0 _ _ _
      | exact ih1 _ _ _ _ _
      | exact ih2 _ _ _
      | exact mapsheetslaw11_awake.mono _
      | exact mapsheetslaw11_off.mono _ _ _
      | exact series_Asin.mono _ _
      | exact series_Sin.mono _ _
      | exact LeO.none _
      | refine LeO.ite ?_ ?_
      | refine LeO.bind ?_ (fun _ => ?_)
set_option maxHeartbeats 8000000 in
set_option maxRecDepth 100000 in
theorem mapsheetslaw11_SeriesNearest.calls (k : Nat) (a0 : Int) (a1 : Int) (r : Bool) (w : World) (h : mapsheetslaw11_SeriesNearest.f k a0 a1 = some r) :
    Calls Try.prog 8 #[.int .i64 a0, .int .i64 a1] w fun e w' => e = .returned (.bool r) ∧ Below w.heap.size w w' := by
  have HB := Aside0.mk (Below.refl w.heap.size w)
  have H : (if a0 < (-324000) then (mapsheetslaw11_SeriesNearest.j0 k a0 a1 true) else (if a0 > 324000 then (mapsheetslaw11_SeriesNearest.j0 k a0 a1 true) else (if a1 < (-1073741824) then (mapsheetslaw11_SeriesNearest.j0 k a0 a1 true) else (mapsheetslaw11_SeriesNearest.j0 k a0 a1 (decide (a1 > 1073741824)))))) = some r := h
  clear h
  have HC3 := Aside0.mk H
  clear H
  go_enter Try.func8, Try.ntmps8
  go_upto_region 1 with (fail)
  go_cut [24] (fun v24 wc => ∃ (kq : Nat) (x24_2 : Bool), v24 = .bool x24_2 ∧ Aside0 (mapsheetslaw11_SeriesNearest.j0 kq a0 a1 x24_2 = some r) ∧ Aside0 (kq ≤ k) ∧ Aside0 (Below w.heap.size w wc))
  case first =>
    have H := HC3.out
    clear HC3
    by_cases c4 : a0 < (-324000)
    · rw [if_pos c4] at H
      have c4b0 : decide (a0 < (-324000)) = true := decide_eq_true c4
      clear c4
      (first | rw [c4b0] | (simp only [i64_w, i32_w]; rw [c4b0]) | skip)
      have H' := Aside0.mk H
      clear H
      go_wp2
      go_meet
      case rel => exact ⟨_, (true), (by first | rfl | (simp; done) | (simp [*]; done)), H', ⟨by first | omega | exact Nat.le_refl _⟩, ⟨by repeat (first | (with_reducible first | exact HB.out | apply below_alloc | apply pw_below_drewN | apply below_drew1) | exact HB.out)⟩⟩
    · rw [if_neg c4] at H
      have c4b0 : decide (a0 < (-324000)) = false := decide_eq_false c4
      clear c4
      (first | rw [c4b0] | (simp only [i64_w, i32_w]; rw [c4b0]) | skip)
      by_cases c5 : a0 > 324000
      · rw [if_pos c5] at H
        have c5b0 : decide (324000 < a0) = true := decide_eq_true c5
        clear c5
        have H' := Aside0.mk H
        clear H
        go_wp2
        go_meet
        case rel => exact ⟨_, (true), (by first | rfl | (simp; done) | (simp [*]; done)), H', ⟨by first | omega | exact Nat.le_refl _⟩, ⟨by repeat (first | (with_reducible first | exact HB.out | apply below_alloc | apply pw_below_drewN | apply below_drew1) | exact HB.out)⟩⟩
      · rw [if_neg c5] at H
        have c5b0 : decide (324000 < a0) = false := decide_eq_false c5
        clear c5
        by_cases c6 : a1 < (-1073741824)
        · rw [if_pos c6] at H
          have c6b0 : decide (a1 < (-1073741824)) = true := decide_eq_true c6
          clear c6
          have H' := Aside0.mk H
          clear H
          go_wp2
          go_meet
          case rel => exact ⟨_, (true), (by first | rfl | (simp; done) | (simp [*]; done)), H', ⟨by first | omega | exact Nat.le_refl _⟩, ⟨by repeat (first | (with_reducible first | exact HB.out | apply below_alloc | apply pw_below_drewN | apply below_drew1) | exact HB.out)⟩⟩
        · rw [if_neg c6] at H
          have c6b0 : decide (a1 < (-1073741824)) = false := decide_eq_false c6
          clear c6
          have H' := Aside0.mk H
          clear H
          go_wp2
          go_meet
          case rel => exact ⟨_, (decide (a1 > 1073741824)), (by first | rfl | (simp; done) | (simp [*]; done)), H', ⟨by first | omega | exact Nat.le_refl _⟩, ⟨by repeat (first | (with_reducible first | exact HB.out | apply below_alloc | apply pw_below_drewN | apply below_drew1) | exact HB.out)⟩⟩
  case rest =>
    clear HC3
    try clear p2
    try clear c4
    try clear c4b0
    try clear c5
    try clear c5b0
    try clear c6
    try clear c6b0
    obtain ⟨kq, x24_2, rfl, HA, HJ2, HB⟩ := hcut
    cases kq with
    | zero => exact absurd HA.out (by simp [mapsheetslaw11_SeriesNearest.j0])
    | succ kj2 =>
      have H := HA.out
      clear HA
      simp only [mapsheetslaw11_SeriesNearest.j0] at H
      by_cases c7 : x24_2 = true
      · subst c7
        have H1 : ((mapsheetslaw11_awake.f kj2).bind fun t242 => (some t242)) = some r := by rw [if_pos rfl] at H; exact H
        clear H
        have H := H1
        clear H1
        replace H := Option.bind_eq_some_iff.mp H
        obtain ⟨t242, A80, H⟩ := H
        replace H : (some t242) = some r := H
        have A8 := Aside0.mk A80
        clear A80
        obtain rfl := Option.some.inj H
        go_wp2_with (first | ((with_reducible refine gate_callee (f := 18) rfl ?_); refine goesL_ (some 25) rfl rfl Try.func18 (by kernel_rfl) rfl #[] rfl (by (try simp only [List.map_toArray, List.map_cons, List.map_nil]); first | done | rfl | (simp only [List.length_drop, List.length_take]; rfl)) ?_; (with_reducible refine (mapsheetslaw11_awake.calls kj2  t242 _ A8.out).mono ?_); rintro e w9 ⟨rfl, hb⟩; refine ⟨_, rfl, ?_⟩; have n0_ := Aside0.mk (below_step (by repeat (first | (with_reducible first | exact HB.out | apply below_alloc | apply pw_below_drewN | apply below_drew1) | exact HB.out)) hb); clear HB; have HB := n0_; clear n0_; (try clear hb); (try clear hb2); (try clear hk); (try clear hi)))
        go_ret
        exact ⟨by first | rfl | (simp [errW_none, errW_some] <;> rfl) | (simp [*, errW_none, errW_some] <;> rfl), by repeat (first | (with_reducible first | exact HB.out | apply below_alloc | apply pw_below_drewN | apply below_drew1) | exact HB.out)⟩
      · replace c7 := Bool.eq_false_iff.mpr c7
        subst c7
        have H1 : ((series_Sin.f kj2 a0).bind fun t243 => ((series_Asin.f kj2 t243).bind fun bt244 => ((series_Asin.f kj2 a1).bind fun bt246 => ((series_Asin.f kj2 (wrap64 (-a1))).bind fun bt248 => (if bt244.2 = 0 then (if bt246.2 = 0 then (if bt248.2 = 0 then (if bt248.1 = (wrap64 (-bt246.1)) then (if bt246.1 < (-324000) then (mapsheetslaw11_SeriesNearest.j1 kj2 a0 a1 bt244.1 bt246.1 true) else (if bt246.1 > 324000 then (mapsheetslaw11_SeriesNearest.j1 kj2 a0 a1 bt244.1 bt246.1 true) else (if bt244.1 < (-324000) then (mapsheetslaw11_SeriesNearest.j1 kj2 a0 a1 bt244.1 bt246.1 true) else (mapsheetslaw11_SeriesNearest.j1 kj2 a0 a1 bt244.1 bt246.1 (decide (bt244.1 > 324000)))))) else (mapsheetslaw11_SeriesNearest.j1 kj2 a0 a1 bt244.1 bt246.1 true)) else (mapsheetslaw11_SeriesNearest.j1 kj2 a0 a1 bt244.1 bt246.1 true)) else (mapsheetslaw11_SeriesNearest.j1 kj2 a0 a1 bt244.1 bt246.1 true)) else (mapsheetslaw11_SeriesNearest.j1 kj2 a0 a1 bt244.1 bt246.1 true)))))) = some r := by rw [if_neg (show ¬ (false = true) by decide)] at H; exact H
        clear H
        have H := H1
        clear H1
        replace H := Option.bind_eq_some_iff.mp H
        obtain ⟨t243, A100, H⟩ := H
        replace H : ((series_Asin.f kj2 t243).bind fun bt244 => ((series_Asin.f kj2 a1).bind fun bt246 => ((series_Asin.f kj2 (wrap64 (-a1))).bind fun bt248 => (if bt244.2 = 0 then (if bt246.2 = 0 then (if bt248.2 = 0 then (if bt248.1 = (wrap64 (-bt246.1)) then (if bt246.1 < (-324000) then (mapsheetslaw11_SeriesNearest.j1 kj2 a0 a1 bt244.1 bt246.1 true) else (if bt246.1 > 324000 then (mapsheetslaw11_SeriesNearest.j1 kj2 a0 a1 bt244.1 bt246.1 true) else (if bt244.1 < (-324000) then (mapsheetslaw11_SeriesNearest.j1 kj2 a0 a1 bt244.1 bt246.1 true) else (mapsheetslaw11_SeriesNearest.j1 kj2 a0 a1 bt244.1 bt246.1 (decide (bt244.1 > 324000)))))) else (mapsheetslaw11_SeriesNearest.j1 kj2 a0 a1 bt244.1 bt246.1 true)) else (mapsheetslaw11_SeriesNearest.j1 kj2 a0 a1 bt244.1 bt246.1 true)) else (mapsheetslaw11_SeriesNearest.j1 kj2 a0 a1 bt244.1 bt246.1 true)) else (mapsheetslaw11_SeriesNearest.j1 kj2 a0 a1 bt244.1 bt246.1 true))))) = some r := H
        have A10 := Aside0.mk A100
        clear A100
        replace H := Option.bind_eq_some_iff.mp H
        obtain ⟨⟨t244, t245⟩, A110, H⟩ := H
        replace H : ((series_Asin.f kj2 a1).bind fun bt246 => ((series_Asin.f kj2 (wrap64 (-a1))).bind fun bt248 => (if t245 = 0 then (if bt246.2 = 0 then (if bt248.2 = 0 then (if bt248.1 = (wrap64 (-bt246.1)) then (if bt246.1 < (-324000) then (mapsheetslaw11_SeriesNearest.j1 kj2 a0 a1 t244 bt246.1 true) else (if bt246.1 > 324000 then (mapsheetslaw11_SeriesNearest.j1 kj2 a0 a1 t244 bt246.1 true) else (if t244 < (-324000) then (mapsheetslaw11_SeriesNearest.j1 kj2 a0 a1 t244 bt246.1 true) else (mapsheetslaw11_SeriesNearest.j1 kj2 a0 a1 t244 bt246.1 (decide (t244 > 324000)))))) else (mapsheetslaw11_SeriesNearest.j1 kj2 a0 a1 t244 bt246.1 true)) else (mapsheetslaw11_SeriesNearest.j1 kj2 a0 a1 t244 bt246.1 true)) else (mapsheetslaw11_SeriesNearest.j1 kj2 a0 a1 t244 bt246.1 true)) else (mapsheetslaw11_SeriesNearest.j1 kj2 a0 a1 t244 bt246.1 true)))) = some r := H
        have A11 := Aside0.mk A110
        clear A110
        replace H := Option.bind_eq_some_iff.mp H
        obtain ⟨⟨t246, t247⟩, A120, H⟩ := H
        replace H : ((series_Asin.f kj2 (wrap64 (-a1))).bind fun bt248 => (if t245 = 0 then (if t247 = 0 then (if bt248.2 = 0 then (if bt248.1 = (wrap64 (-t246)) then (if t246 < (-324000) then (mapsheetslaw11_SeriesNearest.j1 kj2 a0 a1 t244 t246 true) else (if t246 > 324000 then (mapsheetslaw11_SeriesNearest.j1 kj2 a0 a1 t244 t246 true) else (if t244 < (-324000) then (mapsheetslaw11_SeriesNearest.j1 kj2 a0 a1 t244 t246 true) else (mapsheetslaw11_SeriesNearest.j1 kj2 a0 a1 t244 t246 (decide (t244 > 324000)))))) else (mapsheetslaw11_SeriesNearest.j1 kj2 a0 a1 t244 t246 true)) else (mapsheetslaw11_SeriesNearest.j1 kj2 a0 a1 t244 t246 true)) else (mapsheetslaw11_SeriesNearest.j1 kj2 a0 a1 t244 t246 true)) else (mapsheetslaw11_SeriesNearest.j1 kj2 a0 a1 t244 t246 true))) = some r := H
        have A12 := Aside0.mk A120
        clear A120
        replace H := Option.bind_eq_some_iff.mp H
        obtain ⟨⟨t248, t249⟩, A130, H⟩ := H
        replace H : (if t245 = 0 then (if t247 = 0 then (if t249 = 0 then (if t248 = (wrap64 (-t246)) then (if t246 < (-324000) then (mapsheetslaw11_SeriesNearest.j1 kj2 a0 a1 t244 t246 true) else (if t246 > 324000 then (mapsheetslaw11_SeriesNearest.j1 kj2 a0 a1 t244 t246 true) else (if t244 < (-324000) then (mapsheetslaw11_SeriesNearest.j1 kj2 a0 a1 t244 t246 true) else (mapsheetslaw11_SeriesNearest.j1 kj2 a0 a1 t244 t246 (decide (t244 > 324000)))))) else (mapsheetslaw11_SeriesNearest.j1 kj2 a0 a1 t244 t246 true)) else (mapsheetslaw11_SeriesNearest.j1 kj2 a0 a1 t244 t246 true)) else (mapsheetslaw11_SeriesNearest.j1 kj2 a0 a1 t244 t246 true)) else (mapsheetslaw11_SeriesNearest.j1 kj2 a0 a1 t244 t246 true)) = some r := H
        have A13 := Aside0.mk A130
        clear A130
        have HC14 := Aside0.mk H
        clear H
        go_upto_region 6 with (first | ((with_reducible refine gate_callee (f := 14) rfl ?_); refine goesL_ (some 28) rfl rfl Try.func14 (by kernel_rfl) rfl #[.int .i64 a0] rfl (by (try simp only [List.map_toArray, List.map_cons, List.map_nil]); first | done | rfl | (simp only [List.length_drop, List.length_take]; rfl)) ?_; (with_reducible refine (series_Sin.calls kj2 a0 t243 _ A10.out).mono ?_); rintro e w15 ⟨rfl, hb⟩; refine ⟨_, rfl, ?_⟩; have n0_ := Aside0.mk (below_step (by repeat (first | (with_reducible first | exact HB.out | apply below_alloc | apply pw_below_drewN | apply below_drew1) | exact HB.out)) hb); clear HB; have HB := n0_; clear n0_; (try clear hb); (try clear hb2); (try clear hk); (try clear hi)) | ((with_reducible refine gate_callee (f := 19) rfl ?_); refine goesL_ (some 29) rfl rfl Try.func19 (by kernel_rfl) rfl #[.int .i64 t243] rfl (by (try simp only [List.map_toArray, List.map_cons, List.map_nil]); first | done | rfl | (simp only [List.length_drop, List.length_take]; rfl)) ?_; (with_reducible refine (series_Asin.calls kj2 t243 t244 t245 _ A11.out).mono ?_); rintro e w16 ⟨rfl, hb⟩; refine ⟨_, rfl, ?_⟩; have n0_ := Aside0.mk (below_step (by repeat (first | (with_reducible first | exact HB.out | apply below_alloc | apply pw_below_drewN | apply below_drew1) | exact HB.out)) hb); clear HB; have HB := n0_; clear n0_; (try clear hb); (try clear hb2); (try clear hk); (try clear hi)) | ((with_reducible refine gate_callee (f := 19) rfl ?_); refine goesL_ (some 34) rfl rfl Try.func19 (by kernel_rfl) rfl #[.int .i64 a1] rfl (by (try simp only [List.map_toArray, List.map_cons, List.map_nil]); first | done | rfl | (simp only [List.length_drop, List.length_take]; rfl)) ?_; (with_reducible refine (series_Asin.calls kj2 a1 t246 t247 _ A12.out).mono ?_); rintro e w17 ⟨rfl, hb⟩; refine ⟨_, rfl, ?_⟩; have n0_ := Aside0.mk (below_step (by repeat (first | (with_reducible first | exact HB.out | apply below_alloc | apply pw_below_drewN | apply below_drew1) | exact HB.out)) hb); clear HB; have HB := n0_; clear n0_; (try clear hb); (try clear hb2); (try clear hk); (try clear hi)) | ((with_reducible refine gate_callee (f := 19) rfl ?_); refine goesL_ (some 40) rfl rfl Try.func19 (by kernel_rfl) rfl #[.int .i64 (wrap64 (-a1))] rfl (by (try simp only [List.map_toArray, List.map_cons, List.map_nil]); first | done | rfl | (simp only [List.length_drop, List.length_take]; rfl)) ?_; (with_reducible refine (series_Asin.calls kj2 (wrap64 (-a1)) t248 t249 _ A13.out).mono ?_); rintro e w18 ⟨rfl, hb⟩; refine ⟨_, rfl, ?_⟩; have n0_ := Aside0.mk (below_step (by repeat (first | (with_reducible first | exact HB.out | apply below_alloc | apply pw_below_drewN | apply below_drew1) | exact HB.out)) hb); clear HB; have HB := n0_; clear n0_; (try clear hb); (try clear hb2); (try clear hk); (try clear hi)))
        (try simp only [Act.put, List.setIfInBounds_toArray, List.set_cons_zero, List.set_cons_succ])
        go_cut [74] (fun v74 wc => ∃ (kq : Nat) (x74_13 : Bool), v74 = .bool x74_13 ∧ Aside0 (mapsheetslaw11_SeriesNearest.j1 kq a0 a1 t244 t246 x74_13 = some r) ∧ Aside0 (kq ≤ kj2) ∧ Aside0 (Below w.heap.size w wc))
        case first =>
          have H := HC14.out
          clear HC14
          by_cases c19 : t245 = 0
          · rw [if_pos c19] at H
            have c19b0 : (t245 == 0) = true := beq_iff_eq.mpr c19
            have c19b1 : (t245 != 0) = false := bne_eq_false_iff_eq.mpr c19
            clear c19
            (first | rw [c19b0] | (simp only [i64_w, i32_w]; rw [c19b0]) | skip)
            by_cases c20 : t247 = 0
            · rw [if_pos c20] at H
              have c20b0 : (t247 == 0) = true := beq_iff_eq.mpr c20
              have c20b1 : (t247 != 0) = false := bne_eq_false_iff_eq.mpr c20
              clear c20
              by_cases c21 : t249 = 0
              · rw [if_pos c21] at H
                have c21b0 : (t249 == 0) = true := beq_iff_eq.mpr c21
                have c21b1 : (t249 != 0) = false := bne_eq_false_iff_eq.mpr c21
                clear c21
                by_cases c22 : t248 = (wrap64 (-t246))
                · rw [if_pos c22] at H
                  have c22b0 : (t248 == (wrap64 (-t246))) = true := beq_iff_eq.mpr c22
                  have c22b1 : (t248 != (wrap64 (-t246))) = false := bne_eq_false_iff_eq.mpr c22
                  clear c22
                  by_cases c23 : t246 < (-324000)
                  · rw [if_pos c23] at H
                    have c23b0 : decide (t246 < (-324000)) = true := decide_eq_true c23
                    clear c23
                    have H' := Aside0.mk H
                    clear H
                    go_wp2
                    go_meet
                    case rel => exact ⟨_, (true), (by first | rfl | (simp; done) | (simp [*]; done)), H', ⟨by have := HJ2.out; first | omega | exact Nat.le_refl _⟩, ⟨by repeat (first | (with_reducible first | exact HB.out | apply below_alloc | apply pw_below_drewN | apply below_drew1) | exact HB.out)⟩⟩
                  · rw [if_neg c23] at H
                    have c23b0 : decide (t246 < (-324000)) = false := decide_eq_false c23
                    clear c23
                    by_cases c24 : t246 > 324000
                    · rw [if_pos c24] at H
                      have c24b0 : decide (324000 < t246) = true := decide_eq_true c24
                      clear c24
                      have H' := Aside0.mk H
                      clear H
                      go_wp2
                      go_meet
                      case rel => exact ⟨_, (true), (by first | rfl | (simp; done) | (simp [*]; done)), H', ⟨by have := HJ2.out; first | omega | exact Nat.le_refl _⟩, ⟨by repeat (first | (with_reducible first | exact HB.out | apply below_alloc | apply pw_below_drewN | apply below_drew1) | exact HB.out)⟩⟩
                    · rw [if_neg c24] at H
                      have c24b0 : decide (324000 < t246) = false := decide_eq_false c24
                      clear c24
                      by_cases c25 : t244 < (-324000)
                      · rw [if_pos c25] at H
                        have c25b0 : decide (t244 < (-324000)) = true := decide_eq_true c25
                        clear c25
                        have H' := Aside0.mk H
                        clear H
                        go_wp2
                        go_meet
                        case rel => exact ⟨_, (true), (by first | rfl | (simp; done) | (simp [*]; done)), H', ⟨by have := HJ2.out; first | omega | exact Nat.le_refl _⟩, ⟨by repeat (first | (with_reducible first | exact HB.out | apply below_alloc | apply pw_below_drewN | apply below_drew1) | exact HB.out)⟩⟩
                      · rw [if_neg c25] at H
                        have c25b0 : decide (t244 < (-324000)) = false := decide_eq_false c25
                        clear c25
                        have H' := Aside0.mk H
                        clear H
                        go_wp2
                        go_meet
                        case rel => exact ⟨_, (decide (t244 > 324000)), (by first | rfl | (simp; done) | (simp [*]; done)), H', ⟨by have := HJ2.out; first | omega | exact Nat.le_refl _⟩, ⟨by repeat (first | (with_reducible first | exact HB.out | apply below_alloc | apply pw_below_drewN | apply below_drew1) | exact HB.out)⟩⟩
                · rw [if_neg c22] at H
                  have c22b0 : (t248 == (wrap64 (-t246))) = false := beq_eq_false_iff_ne.mpr c22
                  have c22b1 : (t248 != (wrap64 (-t246))) = true := bne_iff_ne.mpr c22
                  have H' := Aside0.mk H
                  clear H
                  go_wp2
                  go_meet
                  case rel => exact ⟨_, (true), (by first | rfl | (simp; done) | (simp [*]; done)), H', ⟨by have := HJ2.out; first | omega | exact Nat.le_refl _⟩, ⟨by repeat (first | (with_reducible first | exact HB.out | apply below_alloc | apply pw_below_drewN | apply below_drew1) | exact HB.out)⟩⟩
              · rw [if_neg c21] at H
                have c21b0 : (t249 == 0) = false := beq_eq_false_iff_ne.mpr c21
                have c21b1 : (t249 != 0) = true := bne_iff_ne.mpr c21
                have H' := Aside0.mk H
                clear H
                go_wp2
                go_meet
                case rel => exact ⟨_, (true), (by first | rfl | (simp; done) | (simp [*]; done)), H', ⟨by have := HJ2.out; first | omega | exact Nat.le_refl _⟩, ⟨by repeat (first | (with_reducible first | exact HB.out | apply below_alloc | apply pw_below_drewN | apply below_drew1) | exact HB.out)⟩⟩
            · rw [if_neg c20] at H
              have c20b0 : (t247 == 0) = false := beq_eq_false_iff_ne.mpr c20
              have c20b1 : (t247 != 0) = true := bne_iff_ne.mpr c20
              have H' := Aside0.mk H
              clear H
              go_wp2
              go_meet
              case rel => exact ⟨_, (true), (by first | rfl | (simp; done) | (simp [*]; done)), H', ⟨by have := HJ2.out; first | omega | exact Nat.le_refl _⟩, ⟨by repeat (first | (with_reducible first | exact HB.out | apply below_alloc | apply pw_below_drewN | apply below_drew1) | exact HB.out)⟩⟩
          · rw [if_neg c19] at H
            have c19b0 : (t245 == 0) = false := beq_eq_false_iff_ne.mpr c19
            have c19b1 : (t245 != 0) = true := bne_iff_ne.mpr c19
            (first | rw [c19b0] | (simp only [i64_w, i32_w]; rw [c19b0]) | skip)
            have H' := Aside0.mk H
            clear H
            go_wp2
            go_meet
            case rel => exact ⟨_, (true), (by first | rfl | (simp; done) | (simp [*]; done)), H', ⟨by have := HJ2.out; first | omega | exact Nat.le_refl _⟩, ⟨by repeat (first | (with_reducible first | exact HB.out | apply below_alloc | apply pw_below_drewN | apply below_drew1) | exact HB.out)⟩⟩
        case rest =>
          clear HC14
          try clear c1
          try clear c2
          try clear p2
          try clear c4
          try clear c4b0
          try clear c5
          try clear c5b0
          try clear c6
          try clear c6b0
          try clear p6
          try clear c7
          try clear c8
          try clear c14
          try clear c18
          try clear c19
          try clear c19b0
          try clear c19b1
          try clear c20
          try clear c20b0
          try clear c20b1
          try clear c21
          try clear c21b0
          try clear c21b1
          try clear c22
          try clear c22b0
          try clear c22b1
          try clear c23
          try clear c23b0
          try clear c24
          try clear c24b0
          try clear c25
          try clear c25b0
          try clear p2
          obtain ⟨kq, x74_13, rfl, HA, HJ13, HB⟩ := hcut
          cases kq with
          | zero => exact absurd HA.out (by simp [mapsheetslaw11_SeriesNearest.j1])
          | succ kj13 =>
            have H := HA.out
            clear HA
            simp only [mapsheetslaw11_SeriesNearest.j1] at H
            by_cases c26 : x74_13 = true
            · subst c26
              have H1 : (none) = some r := by rw [if_pos rfl] at H; exact H
              clear H
              have H := H1
              clear H1
              exact absurd H (by simp)
            · replace c26 := Bool.eq_false_iff.mpr c26
              subst c26
              have H1 : ((series_Sin.f kj13 t244).bind fun t250 => ((series_Sin.f kj13 a0).bind fun t251 => (if t250 = t251 then ((mapsheetslaw11_abs.f t244).bind fun t252 => ((mapsheetslaw11_abs.f a0).bind fun t253 => (mapsheetslaw11_SeriesNearest.j2 kj13 a1 t246 (decide (t252 > t253))))) else (mapsheetslaw11_SeriesNearest.j2 kj13 a1 t246 true)))) = some r := by rw [if_neg (show ¬ (false = true) by decide)] at H; exact H
              clear H
              have H := H1
              clear H1
              have HC27 := Aside0.mk H
              clear H
              go_upto_region 8 with (fail)
              go_cut [86] (fun v86 wc => ∃ (kq : Nat) (x86_26 : Bool), v86 = .bool x86_26 ∧ Aside0 (mapsheetslaw11_SeriesNearest.j2 kq a1 t246 x86_26 = some r) ∧ Aside0 (kq ≤ kj13) ∧ Aside0 (Below w.heap.size w wc))
              case first =>
                have H := HC27.out
                clear HC27
                replace H := Option.bind_eq_some_iff.mp H
                obtain ⟨t250, A280, H⟩ := H
                replace H : ((series_Sin.f kj13 a0).bind fun t251 => (if t250 = t251 then ((mapsheetslaw11_abs.f t244).bind fun t252 => ((mapsheetslaw11_abs.f a0).bind fun t253 => (mapsheetslaw11_SeriesNearest.j2 kj13 a1 t246 (decide (t252 > t253))))) else (mapsheetslaw11_SeriesNearest.j2 kj13 a1 t246 true))) = some r := H
                have A28 := Aside0.mk A280
                clear A280
                replace H := Option.bind_eq_some_iff.mp H
                obtain ⟨t251, A290, H⟩ := H
                replace H : (if t250 = t251 then ((mapsheetslaw11_abs.f t244).bind fun t252 => ((mapsheetslaw11_abs.f a0).bind fun t253 => (mapsheetslaw11_SeriesNearest.j2 kj13 a1 t246 (decide (t252 > t253))))) else (mapsheetslaw11_SeriesNearest.j2 kj13 a1 t246 true)) = some r := H
                have A29 := Aside0.mk A290
                clear A290
                by_cases c30 : t250 = t251
                · rw [if_pos c30] at H
                  have c30b0 : (t250 == t251) = true := beq_iff_eq.mpr c30
                  have c30b1 : (t250 != t251) = false := bne_eq_false_iff_eq.mpr c30
                  clear c30
                  (first | rw [c30b0] | (simp only [i64_w, i32_w]; rw [c30b0]) | skip)
                  replace H := Option.bind_eq_some_iff.mp H
                  obtain ⟨t252, A310, H⟩ := H
                  replace H : ((mapsheetslaw11_abs.f a0).bind fun t253 => (mapsheetslaw11_SeriesNearest.j2 kj13 a1 t246 (decide (t252 > t253)))) = some r := H
                  have A31 := Aside0.mk A310
                  clear A310
                  replace H := Option.bind_eq_some_iff.mp H
                  obtain ⟨t253, A320, H⟩ := H
                  replace H : (mapsheetslaw11_SeriesNearest.j2 kj13 a1 t246 (decide (t252 > t253))) = some r := H
                  have A32 := Aside0.mk A320
                  clear A320
                  have H' := Aside0.mk H
                  clear H
                  go_wp2_with (first | ((with_reducible refine gate_callee (f := 14) rfl ?_); refine goesL_ (some 76) rfl rfl Try.func14 (by kernel_rfl) rfl #[.int .i64 t244] rfl (by (try simp only [List.map_toArray, List.map_cons, List.map_nil]); first | done | rfl | (simp only [List.length_drop, List.length_take]; rfl)) ?_; (with_reducible refine (series_Sin.calls kj13 t244 t250 _ A28.out).mono ?_); rintro e w33 ⟨rfl, hb⟩; refine ⟨_, rfl, ?_⟩; have n0_ := Aside0.mk (below_step (by repeat (first | (with_reducible first | exact HB.out | apply below_alloc | apply pw_below_drewN | apply below_drew1) | exact HB.out)) hb); clear HB; have HB := n0_; clear n0_; (try clear hb); (try clear hb2); (try clear hk); (try clear hi)) | ((with_reducible refine gate_callee (f := 14) rfl ?_); refine goesL_ (some 78) rfl rfl Try.func14 (by kernel_rfl) rfl #[.int .i64 a0] rfl (by (try simp only [List.map_toArray, List.map_cons, List.map_nil]); first | done | rfl | (simp only [List.length_drop, List.length_take]; rfl)) ?_; (with_reducible refine (series_Sin.calls kj13 a0 t251 _ A29.out).mono ?_); rintro e w34 ⟨rfl, hb⟩; refine ⟨_, rfl, ?_⟩; have n0_ := Aside0.mk (below_step (by repeat (first | (with_reducible first | exact HB.out | apply below_alloc | apply pw_below_drewN | apply below_drew1) | exact HB.out)) hb); clear HB; have HB := n0_; clear n0_; (try clear hb); (try clear hb2); (try clear hk); (try clear hi)) | (go_at_call 25; (with_reducible refine (mapsheetslaw11_abs.calls t244 t252 _ A31.out).mono ?_); rintro e w' ⟨rfl, ⟨nd, rfl⟩⟩) | (go_at_call 25; (with_reducible refine (mapsheetslaw11_abs.calls a0 t253 _ A32.out).mono ?_); rintro e w' ⟨rfl, ⟨nd, rfl⟩⟩))
                  go_meet
                  case rel => exact ⟨_, (decide (t252 > t253)), (by first | rfl | (simp; done) | (simp [*]; done)), H', ⟨by have := HJ2.out; have := HJ13.out; first | omega | exact Nat.le_refl _⟩, ⟨by repeat (first | (with_reducible first | exact HB.out | apply below_alloc | apply pw_below_drewN | apply below_drew1) | exact HB.out)⟩⟩
                · rw [if_neg c30] at H
                  have c30b0 : (t250 == t251) = false := beq_eq_false_iff_ne.mpr c30
                  have c30b1 : (t250 != t251) = true := bne_iff_ne.mpr c30
                  (first | rw [c30b0] | (simp only [i64_w, i32_w]; rw [c30b0]) | skip)
                  have H' := Aside0.mk H
                  clear H
                  go_wp2_with (first | ((with_reducible refine gate_callee (f := 14) rfl ?_); refine goesL_ (some 76) rfl rfl Try.func14 (by kernel_rfl) rfl #[.int .i64 t244] rfl (by (try simp only [List.map_toArray, List.map_cons, List.map_nil]); first | done | rfl | (simp only [List.length_drop, List.length_take]; rfl)) ?_; (with_reducible refine (series_Sin.calls kj13 t244 t250 _ A28.out).mono ?_); rintro e w35 ⟨rfl, hb⟩; refine ⟨_, rfl, ?_⟩; have n0_ := Aside0.mk (below_step (by repeat (first | (with_reducible first | exact HB.out | apply below_alloc | apply pw_below_drewN | apply below_drew1) | exact HB.out)) hb); clear HB; have HB := n0_; clear n0_; (try clear hb); (try clear hb2); (try clear hk); (try clear hi)) | ((with_reducible refine gate_callee (f := 14) rfl ?_); refine goesL_ (some 78) rfl rfl Try.func14 (by kernel_rfl) rfl #[.int .i64 a0] rfl (by (try simp only [List.map_toArray, List.map_cons, List.map_nil]); first | done | rfl | (simp only [List.length_drop, List.length_take]; rfl)) ?_; (with_reducible refine (series_Sin.calls kj13 a0 t251 _ A29.out).mono ?_); rintro e w36 ⟨rfl, hb⟩; refine ⟨_, rfl, ?_⟩; have n0_ := Aside0.mk (below_step (by repeat (first | (with_reducible first | exact HB.out | apply below_alloc | apply pw_below_drewN | apply below_drew1) | exact HB.out)) hb); clear HB; have HB := n0_; clear n0_; (try clear hb); (try clear hb2); (try clear hk); (try clear hi)))
                  go_meet
                  case rel => exact ⟨_, (true), (by first | rfl | (simp; done) | (simp [*]; done)), H', ⟨by have := HJ2.out; have := HJ13.out; first | omega | exact Nat.le_refl _⟩, ⟨by repeat (first | (with_reducible first | exact HB.out | apply below_alloc | apply pw_below_drewN | apply below_drew1) | exact HB.out)⟩⟩
              case rest =>
                clear HC27
                try clear c1
                try clear c2
                try clear p2
                try clear c3
                try clear c4
                try clear c4b0
                try clear c5
                try clear c5b0
                try clear c6
                try clear c6b0
                try clear p6
                try clear c7
                try clear c8
                try clear c14
                try clear c18
                try clear c19
                try clear c19b0
                try clear c19b1
                try clear c20
                try clear c20b0
                try clear c20b1
                try clear c21
                try clear c21b0
                try clear c21b1
                try clear c22
                try clear c22b0
                try clear c22b1
                try clear c23
                try clear c23b0
                try clear c24
                try clear c24b0
                try clear c25
                try clear c25b0
                try clear c26
                try clear c30
                try clear c30b0
                try clear c30b1
                try clear p2
                try clear p6
                obtain ⟨kq, x86_26, rfl, HA, HJ26, HB⟩ := hcut
                cases kq with
                | zero => exact absurd HA.out (by simp [mapsheetslaw11_SeriesNearest.j2])
                | succ kj26 =>
                  have H := HA.out
                  clear HA
                  simp only [mapsheetslaw11_SeriesNearest.j2] at H
                  by_cases c37 : x86_26 = true
                  · subst c37
                    have H1 : (none) = some r := by rw [if_pos rfl] at H; exact H
                    clear H
                    have H := H1
                    clear H1
                    exact absurd H (by simp)
                  · replace c37 := Bool.eq_false_iff.mpr c37
                    subst c37
                    have H1 : (if t246 = 324000 then (if t246 = (-324000) then ((mapsheetslaw11_awake.f kj26).bind fun t254 => (some t254)) else ((mapsheetslaw11_off.f kj26 (wrap64 (t246 - 1)) a1).bind fun t255 => ((mapsheetslaw11_off.f kj26 t246 a1).bind fun t256 => (if t255 ≥ t256 then ((mapsheetslaw11_awake.f kj26).bind fun t257 => (some t257)) else (none))))) else ((mapsheetslaw11_off.f kj26 (wrap64 (t246 + 1)) a1).bind fun t258 => ((mapsheetslaw11_off.f kj26 t246 a1).bind fun t259 => (if t258 ≥ t259 then (if t246 = (-324000) then ((mapsheetslaw11_awake.f kj26).bind fun t260 => (some t260)) else ((mapsheetslaw11_off.f kj26 (wrap64 (t246 - 1)) a1).bind fun t261 => ((mapsheetslaw11_off.f kj26 t246 a1).bind fun t262 => (if t261 ≥ t259 then ((mapsheetslaw11_awake.f kj26).bind fun t263 => (some t263)) else (none))))) else (none))))) = some r := by rw [if_neg (show ¬ (false = true) by decide)] at H; exact H
                    clear H
                    have H := H1
                    clear H1
                    by_cases c38 : t246 = 324000
                    · rw [if_pos c38] at H
                      have c38b0 : (t246 == 324000) = true := beq_iff_eq.mpr c38
                      have c38b1 : (t246 != 324000) = false := bne_eq_false_iff_eq.mpr c38
                      clear c38
                      by_cases c39 : t246 = (-324000)
                      · rw [if_pos c39] at H
                        have c39b0 : (t246 == (-324000)) = true := beq_iff_eq.mpr c39
                        have c39b1 : (t246 != (-324000)) = false := bne_eq_false_iff_eq.mpr c39
                        clear c39
                        replace H := Option.bind_eq_some_iff.mp H
                        obtain ⟨t254, A400, H⟩ := H
                        replace H : (some t254) = some r := H
                        have A40 := Aside0.mk A400
                        clear A400
                        obtain rfl := Option.some.inj H
                        go_wp2_with (first | (go_at_call 18; (with_reducible refine (mapsheetslaw11_awake.calls kj26  t254 _ A40.out).mono ?_); rintro e w41 ⟨rfl, hb⟩; have n0_ := Aside0.mk (below_step (by repeat (first | (with_reducible first | exact HB.out | apply below_alloc | apply pw_below_drewN | apply below_drew1) | exact HB.out)) hb); clear HB; have HB := n0_; clear n0_; (try clear hb); (try clear hb2); (try clear hk); (try clear hi)))
                        go_ret
                        exact ⟨by first | rfl | (simp [errW_none, errW_some] <;> rfl) | (simp [*, errW_none, errW_some] <;> rfl), by repeat (first | (with_reducible first | exact HB.out | apply below_alloc | apply pw_below_drewN | apply below_drew1) | exact HB.out)⟩
                      · rw [if_neg c39] at H
                        have c39b0 : (t246 == (-324000)) = false := beq_eq_false_iff_ne.mpr c39
                        have c39b1 : (t246 != (-324000)) = true := bne_iff_ne.mpr c39
                        replace H := Option.bind_eq_some_iff.mp H
                        obtain ⟨t255, A420, H⟩ := H
                        replace H : ((mapsheetslaw11_off.f kj26 t246 a1).bind fun t256 => (if t255 ≥ t256 then ((mapsheetslaw11_awake.f kj26).bind fun t257 => (some t257)) else (none))) = some r := H
                        have A42 := Aside0.mk A420
                        clear A420
                        replace H := Option.bind_eq_some_iff.mp H
                        obtain ⟨t256, A430, H⟩ := H
                        replace H : (if t255 ≥ t256 then ((mapsheetslaw11_awake.f kj26).bind fun t257 => (some t257)) else (none)) = some r := H
                        have A43 := Aside0.mk A430
                        clear A430
                        by_cases c44 : t255 ≥ t256
                        · rw [if_pos c44] at H
                          have c44b0 : decide (t256 ≤ t255) = true := decide_eq_true c44
                          clear c44
                          replace H := Option.bind_eq_some_iff.mp H
                          obtain ⟨t257, A450, H⟩ := H
                          replace H : (some t257) = some r := H
                          have A45 := Aside0.mk A450
                          clear A450
                          obtain rfl := Option.some.inj H
                          go_wp2_with (first | (go_at_call 26; (with_reducible refine (mapsheetslaw11_off.calls kj26 (wrap64 (t246 - 1)) a1 t255 _ A42.out).mono ?_); rintro e w46 ⟨rfl, hb⟩; have n0_ := Aside0.mk (below_step (by repeat (first | (with_reducible first | exact HB.out | apply below_alloc | apply pw_below_drewN | apply below_drew1) | exact HB.out)) hb); clear HB; have HB := n0_; clear n0_; (try clear hb); (try clear hb2); (try clear hk); (try clear hi)) | (go_at_call 26; (with_reducible refine (mapsheetslaw11_off.calls kj26 t246 a1 t256 _ A43.out).mono ?_); rintro e w47 ⟨rfl, hb⟩; have n0_ := Aside0.mk (below_step (by repeat (first | (with_reducible first | exact HB.out | apply below_alloc | apply pw_below_drewN | apply below_drew1) | exact HB.out)) hb); clear HB; have HB := n0_; clear n0_; (try clear hb); (try clear hb2); (try clear hk); (try clear hi)) | (go_at_call 18; (with_reducible refine (mapsheetslaw11_awake.calls kj26  t257 _ A45.out).mono ?_); rintro e w48 ⟨rfl, hb⟩; have n0_ := Aside0.mk (below_step (by repeat (first | (with_reducible first | exact HB.out | apply below_alloc | apply pw_below_drewN | apply below_drew1) | exact HB.out)) hb); clear HB; have HB := n0_; clear n0_; (try clear hb); (try clear hb2); (try clear hk); (try clear hi)))
                          go_ret
                          exact ⟨by first | rfl | (simp [errW_none, errW_some] <;> rfl) | (simp [*, errW_none, errW_some] <;> rfl), by repeat (first | (with_reducible first | exact HB.out | apply below_alloc | apply pw_below_drewN | apply below_drew1) | exact HB.out)⟩
                        · rw [if_neg c44] at H
                          exact absurd H (by simp)
                    · rw [if_neg c38] at H
                      have c38b0 : (t246 == 324000) = false := beq_eq_false_iff_ne.mpr c38
                      have c38b1 : (t246 != 324000) = true := bne_iff_ne.mpr c38
                      replace H := Option.bind_eq_some_iff.mp H
                      obtain ⟨t258, A490, H⟩ := H
                      replace H : ((mapsheetslaw11_off.f kj26 t246 a1).bind fun t259 => (if t258 ≥ t259 then (if t246 = (-324000) then ((mapsheetslaw11_awake.f kj26).bind fun t260 => (some t260)) else ((mapsheetslaw11_off.f kj26 (wrap64 (t246 - 1)) a1).bind fun t261 => ((mapsheetslaw11_off.f kj26 t246 a1).bind fun t262 => (if t261 ≥ t259 then ((mapsheetslaw11_awake.f kj26).bind fun t263 => (some t263)) else (none))))) else (none))) = some r := H
                      have A49 := Aside0.mk A490
                      clear A490
                      replace H := Option.bind_eq_some_iff.mp H
                      obtain ⟨t259, A500, H⟩ := H
                      replace H : (if t258 ≥ t259 then (if t246 = (-324000) then ((mapsheetslaw11_awake.f kj26).bind fun t260 => (some t260)) else ((mapsheetslaw11_off.f kj26 (wrap64 (t246 - 1)) a1).bind fun t261 => ((mapsheetslaw11_off.f kj26 t246 a1).bind fun t262 => (if t261 ≥ t259 then ((mapsheetslaw11_awake.f kj26).bind fun t263 => (some t263)) else (none))))) else (none)) = some r := H
                      have A50 := Aside0.mk A500
                      clear A500
                      by_cases c51 : t258 ≥ t259
                      · rw [if_pos c51] at H
                        have c51b0 : decide (t259 ≤ t258) = true := decide_eq_true c51
                        clear c51
                        by_cases c52 : t246 = (-324000)
                        · rw [if_pos c52] at H
                          have c52b0 : (t246 == (-324000)) = true := beq_iff_eq.mpr c52
                          have c52b1 : (t246 != (-324000)) = false := bne_eq_false_iff_eq.mpr c52
                          clear c52
                          replace H := Option.bind_eq_some_iff.mp H
                          obtain ⟨t260, A530, H⟩ := H
                          replace H : (some t260) = some r := H
                          have A53 := Aside0.mk A530
                          clear A530
                          obtain rfl := Option.some.inj H
                          go_wp2_with (first | (go_at_call 26; (with_reducible refine (mapsheetslaw11_off.calls kj26 (wrap64 (t246 + 1)) a1 t258 _ A49.out).mono ?_); rintro e w54 ⟨rfl, hb⟩; have n0_ := Aside0.mk (below_step (by repeat (first | (with_reducible first | exact HB.out | apply below_alloc | apply pw_below_drewN | apply below_drew1) | exact HB.out)) hb); clear HB; have HB := n0_; clear n0_; (try clear hb); (try clear hb2); (try clear hk); (try clear hi)) | (go_at_call 26; (with_reducible refine (mapsheetslaw11_off.calls kj26 t246 a1 t259 _ A50.out).mono ?_); rintro e w55 ⟨rfl, hb⟩; have n0_ := Aside0.mk (below_step (by repeat (first | (with_reducible first | exact HB.out | apply below_alloc | apply pw_below_drewN | apply below_drew1) | exact HB.out)) hb); clear HB; have HB := n0_; clear n0_; (try clear hb); (try clear hb2); (try clear hk); (try clear hi)) | (go_at_call 18; (with_reducible refine (mapsheetslaw11_awake.calls kj26  t260 _ A53.out).mono ?_); rintro e w56 ⟨rfl, hb⟩; have n0_ := Aside0.mk (below_step (by repeat (first | (with_reducible first | exact HB.out | apply below_alloc | apply pw_below_drewN | apply below_drew1) | exact HB.out)) hb); clear HB; have HB := n0_; clear n0_; (try clear hb); (try clear hb2); (try clear hk); (try clear hi)))
                          go_ret
                          exact ⟨by first | rfl | (simp [errW_none, errW_some] <;> rfl) | (simp [*, errW_none, errW_some] <;> rfl), by repeat (first | (with_reducible first | exact HB.out | apply below_alloc | apply pw_below_drewN | apply below_drew1) | exact HB.out)⟩
                        · rw [if_neg c52] at H
                          have c52b0 : (t246 == (-324000)) = false := beq_eq_false_iff_ne.mpr c52
                          have c52b1 : (t246 != (-324000)) = true := bne_iff_ne.mpr c52
                          replace H := Option.bind_eq_some_iff.mp H
                          obtain ⟨t261, A570, H⟩ := H
                          replace H : ((mapsheetslaw11_off.f kj26 t246 a1).bind fun t262 => (if t261 ≥ t259 then ((mapsheetslaw11_awake.f kj26).bind fun t263 => (some t263)) else (none))) = some r := H
                          have A57 := Aside0.mk A570
                          clear A570
                          replace H := Option.bind_eq_some_iff.mp H
                          obtain ⟨t262, A580, H⟩ := H
                          replace H : (if t261 ≥ t259 then ((mapsheetslaw11_awake.f kj26).bind fun t263 => (some t263)) else (none)) = some r := H
                          have A58 := Aside0.mk A580
                          clear A580
                          by_cases c59 : t261 ≥ t259
                          · rw [if_pos c59] at H
                            have c59b0 : decide (t259 ≤ t261) = true := decide_eq_true c59
                            clear c59
                            replace H := Option.bind_eq_some_iff.mp H
                            obtain ⟨t263, A600, H⟩ := H
                            replace H : (some t263) = some r := H
                            have A60 := Aside0.mk A600
                            clear A600
                            obtain rfl := Option.some.inj H
                            go_wp2_with (first | (go_at_call 26; (with_reducible refine (mapsheetslaw11_off.calls kj26 (wrap64 (t246 + 1)) a1 t258 _ A49.out).mono ?_); rintro e w61 ⟨rfl, hb⟩; have n0_ := Aside0.mk (below_step (by repeat (first | (with_reducible first | exact HB.out | apply below_alloc | apply pw_below_drewN | apply below_drew1) | exact HB.out)) hb); clear HB; have HB := n0_; clear n0_; (try clear hb); (try clear hb2); (try clear hk); (try clear hi)) | (go_at_call 26; (with_reducible refine (mapsheetslaw11_off.calls kj26 t246 a1 t259 _ A50.out).mono ?_); rintro e w62 ⟨rfl, hb⟩; have n0_ := Aside0.mk (below_step (by repeat (first | (with_reducible first | exact HB.out | apply below_alloc | apply pw_below_drewN | apply below_drew1) | exact HB.out)) hb); clear HB; have HB := n0_; clear n0_; (try clear hb); (try clear hb2); (try clear hk); (try clear hi)) | (go_at_call 26; (with_reducible refine (mapsheetslaw11_off.calls kj26 (wrap64 (t246 - 1)) a1 t261 _ A57.out).mono ?_); rintro e w63 ⟨rfl, hb⟩; have n0_ := Aside0.mk (below_step (by repeat (first | (with_reducible first | exact HB.out | apply below_alloc | apply pw_below_drewN | apply below_drew1) | exact HB.out)) hb); clear HB; have HB := n0_; clear n0_; (try clear hb); (try clear hb2); (try clear hk); (try clear hi)) | (go_at_call 26; (with_reducible refine (mapsheetslaw11_off.calls kj26 t246 a1 t262 _ A58.out).mono ?_); rintro e w64 ⟨rfl, hb⟩; have n0_ := Aside0.mk (below_step (by repeat (first | (with_reducible first | exact HB.out | apply below_alloc | apply pw_below_drewN | apply below_drew1) | exact HB.out)) hb); clear HB; have HB := n0_; clear n0_; (try clear hb); (try clear hb2); (try clear hk); (try clear hi)) | (go_at_call 18; (with_reducible refine (mapsheetslaw11_awake.calls kj26  t263 _ A60.out).mono ?_); rintro e w65 ⟨rfl, hb⟩; have n0_ := Aside0.mk (below_step (by repeat (first | (with_reducible first | exact HB.out | apply below_alloc | apply pw_below_drewN | apply below_drew1) | exact HB.out)) hb); clear HB; have HB := n0_; clear n0_; (try clear hb); (try clear hb2); (try clear hk); (try clear hi)))
                            go_ret
                            exact ⟨by first | rfl | (simp [errW_none, errW_some] <;> rfl) | (simp [*, errW_none, errW_some] <;> rfl), by repeat (first | (with_reducible first | exact HB.out | apply below_alloc | apply pw_below_drewN | apply below_drew1) | exact HB.out)⟩
                          · rw [if_neg c59] at H
                            exact absurd H (by simp)
                      · rw [if_neg c51] at H
                        exact absurd H (by simp)

/-- THE ONE PURE STATEMENT of mapsheetslaw11_SeriesNearest: yours. -/
def mapsheetslaw11_SeriesNearest.Pure : Prop := ∀ (a0 : Int) (a1 : Int), (Lit.int .i64 a0).wf = true → (Lit.int .i64 a1).wf = true → ∃ k, mapsheetslaw11_SeriesNearest.f k a0 a1 = some true
theorem mapsheetslaw11_SeriesNearest.walk (P : mapsheetslaw11_SeriesNearest.Pure) (a0 : Int) (a1 : Int) (w : World) (w0 : (Lit.int .i64 a0).wf = true) (w1 : (Lit.int .i64 a1).wf = true) :
    Calls Try.prog 8 #[.int .i64 a0, .int .i64 a1] w fun e w' => e = .returned (.bool true) ∧ Below w.heap.size w w' := by
  obtain ⟨k, h⟩ := P a0 a1 w0 w1
  refine (mapsheetslaw11_SeriesNearest.calls k a0 a1 true w h).mono ?_
  rintro e w' ⟨rfl, hd⟩
  exact ⟨rfl, hd⟩

end Go.Proofs.Ytaehaehgngafnaa.P
