-- Written by wip/tools/xprint.py (this session's program, over the kit's print.py) for this seat.
import Derived.Test.YtaehaehgngafnaaPx0
import Derived.Test.YtaehaehgngafnaaPx1
import Derived.Test.YtaehaehgngafnaaPx4
namespace Go.Proofs.Ytaehaehgngafnaa.P
open Go.RowKit Go.Proofs.YtaehaehgngafnaaW.PrintWords Go.Proofs.YtaehaehgngafnaaW.PrintLast Go.Proofs.YtaehaehgngafnaaW.PrintMore
attribute [local go_sem] max2_int min2_int max_two min_two max_three min_three max_four min_four   -- for this text's walks alone
set_option linter.unusedVariables false
set_option linter.unusedSimpArgs false

/-! ### mapsheetslaw11_SeriesDoubles: function 9 -/
mutual
def mapsheetslaw11_SeriesDoubles.j0 : Nat → Int → Int → Bool → Option (Bool)
  | 0, _, _, _ => none
  | k + 1, x0, x1, x16 => if x16 = true then ((mapsheetslaw11_awake.f k).bind fun t264 => (some t264)) else ((series_Log.f k x0).bind fun bt265 => ((series_Log.f k (wrap64 (2 * x0))).bind fun bt267 => (if bt265.2 = 0 then (if bt267.2 = 0 then (if (wrap64 (bt267.1 - bt265.1)) < 744261117 then (mapsheetslaw11_SeriesDoubles.j1 k x0 x1 bt265.1 true) else (mapsheetslaw11_SeriesDoubles.j1 k x0 x1 bt265.1 (decide ((wrap64 (bt267.1 - bt265.1)) > 744261118)))) else (mapsheetslaw11_SeriesDoubles.j1 k x0 x1 bt265.1 true)) else (mapsheetslaw11_SeriesDoubles.j1 k x0 x1 bt265.1 true))))
def mapsheetslaw11_SeriesDoubles.j1 : Nat → Int → Int → Int → Bool → Option (Bool)
  | 0, _, _, _, _ => none
  | k + 1, x0, x1, x5, x46 => if x46 = true then (none) else (if x1 > 4611686018427387904 then (mapsheetslaw11_SeriesDoubles.j2 k x1 x5 true) else (mapsheetslaw11_SeriesDoubles.j2 k x1 x5 (decide (x1 < (wrap64 ((wrap64 (x0 + (x0 / 1099511627776))) + 1))))))
def mapsheetslaw11_SeriesDoubles.j2 : Nat → Int → Int → Bool → Option (Bool)
  | 0, _, _, _ => none
  | k + 1, x1, x5, x57 => if x57 = true then ((mapsheetslaw11_awake.f k).bind fun t269 => (some t269)) else ((series_Log.f k x1).bind fun bt270 => (if bt270.2 = 0 then (if x5 ≤ bt270.1 then ((mapsheetslaw11_awake.f k).bind fun t272 => (some t272)) else (none)) else (none)))
end
def mapsheetslaw11_SeriesDoubles.f (k : Nat) (a0 : Int) (a1 : Int) : Option (Bool) := if a0 < 1 then (mapsheetslaw11_SeriesDoubles.j0 k a0 a1 true) else (mapsheetslaw11_SeriesDoubles.j0 k a0 a1 (decide (a0 > 2305843009213693952)))
theorem mapsheetslaw11_SeriesDoubles.mono_l : ∀ k, (∀ y0 y1 y2, LeO (mapsheetslaw11_SeriesDoubles.j0 k y0 y1 y2) (mapsheetslaw11_SeriesDoubles.j0 (k + 1) y0 y1 y2)) ∧ (∀ y0 y1 y2 y3, LeO (mapsheetslaw11_SeriesDoubles.j1 k y0 y1 y2 y3) (mapsheetslaw11_SeriesDoubles.j1 (k + 1) y0 y1 y2 y3)) ∧ (∀ y0 y1 y2, LeO (mapsheetslaw11_SeriesDoubles.j2 k y0 y1 y2) (mapsheetslaw11_SeriesDoubles.j2 (k + 1) y0 y1 y2))
  | 0 => ⟨fun _ _ _ r h => by simp [mapsheetslaw11_SeriesDoubles.j0] at h, fun _ _ _ _ r h => by simp [mapsheetslaw11_SeriesDoubles.j1] at h, fun _ _ _ r h => by simp [mapsheetslaw11_SeriesDoubles.j2] at h⟩
  | k + 1 => by
    obtain ⟨ih0, ih1, ih2⟩ := mapsheetslaw11_SeriesDoubles.mono_l k
    refine ⟨?_, ?_, ?_⟩
    · intro y0 y1 y2
      unfold mapsheetslaw11_SeriesDoubles.j0
      repeat' first
      | (with_reducible exact ih0 _ _ _)
      | (with_reducible exact ih1 _ _ _ _)
      | (with_reducible exact ih2 _ _ _)
      | (with_reducible exact mapsheetslaw11_awake.mono _)
      | (with_reducible exact series_Log.mono _ _)
      | (with_reducible exact LeO.refl _)
      | (with_reducible exact LeO.none _)
      | (with_reducible refine LeO.ite ?_ ?_)
      | (with_reducible refine LeO.bind ?_ (fun _ => ?_))
      | exact ih0 _ _ _
      | exact ih1 _ _ _ _
      | exact ih2 _ _ _
      | exact mapsheetslaw11_awake.mono _
      | exact series_Log.mono _ _
      | exact LeO.none _
      | refine LeO.ite ?_ ?_
      | refine LeO.bind ?_ (fun _ => ?_)
    · intro y0 y1 y2 y3
      unfold mapsheetslaw11_SeriesDoubles.j1
      repeat' first
      | (with_reducible exact ih0 _ _ _)
      | (with_reducible exact ih1 _ _ _ _)
      | (with_reducible exact ih2 _ _ _)
      | (with_reducible exact mapsheetslaw11_awake.mono _)
      | (with_reducible exact series_Log.mono _ _)
      | (with_reducible exact LeO.refl _)
      | (with_reducible exact LeO.none _)
      | (with_reducible refine LeO.ite ?_ ?_)
      | (with_reducible refine LeO.bind ?_ (fun _ => ?_))
      | exact ih0 _ _ _
      | exact ih1 _ _ _ _
      | exact ih2 _ _ _
      | exact mapsheetslaw11_awake.mono _
      | exact series_Log.mono _ _
      | exact LeO.none _
      | refine LeO.ite ?_ ?_
      | refine LeO.bind ?_ (fun _ => ?_)
    · intro y0 y1 y2
      unfold mapsheetslaw11_SeriesDoubles.j2
      repeat' first
      | (with_reducible exact ih0 _ _ _)
      | (with_reducible exact ih1 _ _ _ _)
      | (with_reducible exact ih2 _ _ _)
      | (with_reducible exact mapsheetslaw11_awake.mono _)
      | (with_reducible exact series_Log.mono _ _)
      | (with_reducible exact LeO.refl _)
      | (with_reducible exact LeO.none _)
      | (with_reducible refine LeO.ite ?_ ?_)
      | (with_reducible refine LeO.bind ?_ (fun _ => ?_))
      | exact ih0 _ _ _
      | exact ih1 _ _ _ _
      | exact ih2 _ _ _
      | exact mapsheetslaw11_awake.mono _
      | exact series_Log.mono _ _
      | exact LeO.none _
      | refine LeO.ite ?_ ?_
      | refine LeO.bind ?_ (fun _ => ?_)
theorem mapsheetslaw11_SeriesDoubles.mono : ∀ a0 a1 k, LeO (mapsheetslaw11_SeriesDoubles.f k a0 a1) (mapsheetslaw11_SeriesDoubles.f (k + 1) a0 a1) := by
  intro a0 a1 k
  obtain ⟨ih0, ih1, ih2⟩ := mapsheetslaw11_SeriesDoubles.mono_l k
  unfold mapsheetslaw11_SeriesDoubles.f
  repeat' first
      | (with_reducible exact ih0 _ _ _)
      | (with_reducible exact ih1 _ _ _ _)
      | (with_reducible exact ih2 _ _ _)
      | (with_reducible exact mapsheetslaw11_awake.mono _)
      | (with_reducible exact series_Log.mono _ _)
      | (with_reducible exact LeO.refl _)
      | (with_reducible exact LeO.none _)
      | (with_reducible refine LeO.ite ?_ ?_)
      | (with_reducible refine LeO.bind ?_ (fun _ => ?_))
      | exact ih0 _ _ _
      | exact ih1 _ _ _ _
      | exact ih2 _ _ _
      | exact mapsheetslaw11_awake.mono _
      | exact series_Log.mono _ _
      | exact LeO.none _
      | refine LeO.ite ?_ ?_
      | refine LeO.bind ?_ (fun _ => ?_)
set_option maxHeartbeats 8000000 in
set_option maxRecDepth 100000 in
theorem mapsheetslaw11_SeriesDoubles.calls (k : Nat) (a0 : Int) (a1 : Int) (r : Bool) (w : World) (h : mapsheetslaw11_SeriesDoubles.f k a0 a1 = some r) :
    Calls Try.prog 9 #[.int .i64 a0, .int .i64 a1] w fun e w' => e = .returned (.bool r) ∧ Below w.heap.size w w' := by
  have HB := Aside0.mk (Below.refl w.heap.size w)
  have H : (if a0 < 1 then (mapsheetslaw11_SeriesDoubles.j0 k a0 a1 true) else (mapsheetslaw11_SeriesDoubles.j0 k a0 a1 (decide (a0 > 2305843009213693952)))) = some r := h
  clear h
  have HC3 := Aside0.mk H
  clear H
  go_enter Try.func9, Try.ntmps9
  go_upto_region 1 with (fail)
  go_cut [16] (fun v16 wc => ∃ (kq : Nat) (x16_2 : Bool), v16 = .bool x16_2 ∧ Aside0 (mapsheetslaw11_SeriesDoubles.j0 kq a0 a1 x16_2 = some r) ∧ Aside0 (kq ≤ k) ∧ Aside0 (Below w.heap.size w wc))
  case first =>
    have H := HC3.out
    clear HC3
    by_cases c4 : a0 < 1
    · rw [if_pos c4] at H
      have c4b0 : decide (a0 < 1) = true := decide_eq_true c4
      clear c4
      (first | rw [c4b0] | (simp only [i64_w, i32_w]; rw [c4b0]) | skip)
      have H' := Aside0.mk H
      clear H
      go_wp2
      go_meet
      case rel => exact ⟨_, (true), (by first | rfl | (simp; done) | (simp [*]; done)), H', ⟨by first | omega | exact Nat.le_refl _⟩, ⟨by repeat (first | (with_reducible first | exact HB.out | apply below_alloc | apply pw_below_drewN | apply below_drew1) | exact HB.out)⟩⟩
    · rw [if_neg c4] at H
      have c4b0 : decide (a0 < 1) = false := decide_eq_false c4
      clear c4
      (first | rw [c4b0] | (simp only [i64_w, i32_w]; rw [c4b0]) | skip)
      have H' := Aside0.mk H
      clear H
      go_wp2
      go_meet
      case rel => exact ⟨_, (decide (a0 > 2305843009213693952)), (by first | rfl | (simp; done) | (simp [*]; done)), H', ⟨by first | omega | exact Nat.le_refl _⟩, ⟨by repeat (first | (with_reducible first | exact HB.out | apply below_alloc | apply pw_below_drewN | apply below_drew1) | exact HB.out)⟩⟩
  case rest =>
    clear HC3
    try clear p2
    try clear c4
    try clear c4b0
    obtain ⟨kq, x16_2, rfl, HA, HJ2, HB⟩ := hcut
    cases kq with
    | zero => exact absurd HA.out (by simp [mapsheetslaw11_SeriesDoubles.j0])
    | succ kj2 =>
      have H := HA.out
      clear HA
      simp only [mapsheetslaw11_SeriesDoubles.j0] at H
      by_cases c5 : x16_2 = true
      · subst c5
        have H1 : ((mapsheetslaw11_awake.f kj2).bind fun t264 => (some t264)) = some r := by rw [if_pos rfl] at H; exact H
        clear H
        have H := H1
        clear H1
        replace H := Option.bind_eq_some_iff.mp H
        obtain ⟨t264, A60, H⟩ := H
        replace H : (some t264) = some r := H
        have A6 := Aside0.mk A60
        clear A60
        obtain rfl := Option.some.inj H
        go_wp2_with (first | ((with_reducible refine gate_callee (f := 18) rfl ?_); refine goesL_ (some 17) rfl rfl Try.func18 (by kernel_rfl) rfl #[] rfl (by (try simp only [List.map_toArray, List.map_cons, List.map_nil]); first | done | rfl | (simp only [List.length_drop, List.length_take]; rfl)) ?_; (with_reducible refine (mapsheetslaw11_awake.calls kj2  t264 _ A6.out).mono ?_); rintro e w7 ⟨rfl, hb⟩; refine ⟨_, rfl, ?_⟩; have n0_ := Aside0.mk (below_step (by repeat (first | (with_reducible first | exact HB.out | apply below_alloc | apply pw_below_drewN | apply below_drew1) | exact HB.out)) hb); clear HB; have HB := n0_; clear n0_; (try clear hb); (try clear hb2); (try clear hk); (try clear hi)))
        go_ret
        exact ⟨by first | rfl | (simp [errW_none, errW_some] <;> rfl) | (simp [*, errW_none, errW_some] <;> rfl), by repeat (first | (with_reducible first | exact HB.out | apply below_alloc | apply pw_below_drewN | apply below_drew1) | exact HB.out)⟩
      · replace c5 := Bool.eq_false_iff.mpr c5
        subst c5
        have H1 : ((series_Log.f kj2 a0).bind fun bt265 => ((series_Log.f kj2 (wrap64 (2 * a0))).bind fun bt267 => (if bt265.2 = 0 then (if bt267.2 = 0 then (if (wrap64 (bt267.1 - bt265.1)) < 744261117 then (mapsheetslaw11_SeriesDoubles.j1 kj2 a0 a1 bt265.1 true) else (mapsheetslaw11_SeriesDoubles.j1 kj2 a0 a1 bt265.1 (decide ((wrap64 (bt267.1 - bt265.1)) > 744261118)))) else (mapsheetslaw11_SeriesDoubles.j1 kj2 a0 a1 bt265.1 true)) else (mapsheetslaw11_SeriesDoubles.j1 kj2 a0 a1 bt265.1 true)))) = some r := by rw [if_neg (show ¬ (false = true) by decide)] at H; exact H
        clear H
        have H := H1
        clear H1
        replace H := Option.bind_eq_some_iff.mp H
        obtain ⟨⟨t265, t266⟩, A80, H⟩ := H
        replace H : ((series_Log.f kj2 (wrap64 (2 * a0))).bind fun bt267 => (if t266 = 0 then (if bt267.2 = 0 then (if (wrap64 (bt267.1 - t265)) < 744261117 then (mapsheetslaw11_SeriesDoubles.j1 kj2 a0 a1 t265 true) else (mapsheetslaw11_SeriesDoubles.j1 kj2 a0 a1 t265 (decide ((wrap64 (bt267.1 - t265)) > 744261118)))) else (mapsheetslaw11_SeriesDoubles.j1 kj2 a0 a1 t265 true)) else (mapsheetslaw11_SeriesDoubles.j1 kj2 a0 a1 t265 true))) = some r := H
        have A8 := Aside0.mk A80
        clear A80
        replace H := Option.bind_eq_some_iff.mp H
        obtain ⟨⟨t267, t268⟩, A90, H⟩ := H
        replace H : (if t266 = 0 then (if t268 = 0 then (if (wrap64 (t267 - t265)) < 744261117 then (mapsheetslaw11_SeriesDoubles.j1 kj2 a0 a1 t265 true) else (mapsheetslaw11_SeriesDoubles.j1 kj2 a0 a1 t265 (decide ((wrap64 (t267 - t265)) > 744261118)))) else (mapsheetslaw11_SeriesDoubles.j1 kj2 a0 a1 t265 true)) else (mapsheetslaw11_SeriesDoubles.j1 kj2 a0 a1 t265 true)) = some r := H
        have A9 := Aside0.mk A90
        clear A90
        have HC10 := Aside0.mk H
        clear H
        go_upto_region 5 with (first | ((with_reducible refine gate_callee (f := 21) rfl ?_); refine goesL_ (some 20) rfl rfl Try.func21 (by kernel_rfl) rfl #[.int .i64 a0] rfl (by (try simp only [List.map_toArray, List.map_cons, List.map_nil]); first | done | rfl | (simp only [List.length_drop, List.length_take]; rfl)) ?_; (with_reducible refine (series_Log.calls kj2 a0 t265 t266 _ A8.out).mono ?_); rintro e w' ⟨rfl, ⟨nd, rfl⟩⟩; refine ⟨_, rfl, ?_⟩) | ((with_reducible refine gate_callee (f := 21) rfl ?_); refine goesL_ (some 26) rfl rfl Try.func21 (by kernel_rfl) rfl #[.int .i64 (wrap64 (2 * a0))] rfl (by (try simp only [List.map_toArray, List.map_cons, List.map_nil]); first | done | rfl | (simp only [List.length_drop, List.length_take]; rfl)) ?_; (with_reducible refine (series_Log.calls kj2 (wrap64 (2 * a0)) t267 t268 _ A9.out).mono ?_); rintro e w' ⟨rfl, ⟨nd, rfl⟩⟩; refine ⟨_, rfl, ?_⟩))
        (try simp only [Act.put, List.setIfInBounds_toArray, List.set_cons_zero, List.set_cons_succ])
        go_cut [46] (fun v46 wc => ∃ (kq : Nat) (x46_9 : Bool), v46 = .bool x46_9 ∧ Aside0 (mapsheetslaw11_SeriesDoubles.j1 kq a0 a1 t265 x46_9 = some r) ∧ Aside0 (kq ≤ kj2) ∧ Aside0 (Below w.heap.size w wc))
        case first =>
          have H := HC10.out
          clear HC10
          by_cases c11 : t266 = 0
          · rw [if_pos c11] at H
            have c11b0 : (t266 == 0) = true := beq_iff_eq.mpr c11
            have c11b1 : (t266 != 0) = false := bne_eq_false_iff_eq.mpr c11
            clear c11
            (first | rw [c11b0] | (simp only [i64_w, i32_w]; rw [c11b0]) | skip)
            by_cases c12 : t268 = 0
            · rw [if_pos c12] at H
              have c12b0 : (t268 == 0) = true := beq_iff_eq.mpr c12
              have c12b1 : (t268 != 0) = false := bne_eq_false_iff_eq.mpr c12
              clear c12
              by_cases c13 : (wrap64 (t267 - t265)) < 744261117
              · rw [if_pos c13] at H
                have c13b0 : decide ((wrap64 (t267 - t265)) < 744261117) = true := decide_eq_true c13
                clear c13
                have H' := Aside0.mk H
                clear H
                go_wp2
                go_meet
                case rel => exact ⟨_, (true), (by first | rfl | (simp; done) | (simp [*]; done)), H', ⟨by have := HJ2.out; first | omega | exact Nat.le_refl _⟩, ⟨by repeat (first | (with_reducible first | exact HB.out | apply below_alloc | apply pw_below_drewN | apply below_drew1) | exact HB.out)⟩⟩
              · rw [if_neg c13] at H
                have c13b0 : decide ((wrap64 (t267 - t265)) < 744261117) = false := decide_eq_false c13
                clear c13
                have H' := Aside0.mk H
                clear H
                go_wp2
                go_meet
                case rel => exact ⟨_, (decide ((wrap64 (t267 - t265)) > 744261118)), (by first | rfl | (simp; done) | (simp [*]; done)), H', ⟨by have := HJ2.out; first | omega | exact Nat.le_refl _⟩, ⟨by repeat (first | (with_reducible first | exact HB.out | apply below_alloc | apply pw_below_drewN | apply below_drew1) | exact HB.out)⟩⟩
            · rw [if_neg c12] at H
              have c12b0 : (t268 == 0) = false := beq_eq_false_iff_ne.mpr c12
              have c12b1 : (t268 != 0) = true := bne_iff_ne.mpr c12
              have H' := Aside0.mk H
              clear H
              go_wp2
              go_meet
              case rel => exact ⟨_, (true), (by first | rfl | (simp; done) | (simp [*]; done)), H', ⟨by have := HJ2.out; first | omega | exact Nat.le_refl _⟩, ⟨by repeat (first | (with_reducible first | exact HB.out | apply below_alloc | apply pw_below_drewN | apply below_drew1) | exact HB.out)⟩⟩
          · rw [if_neg c11] at H
            have c11b0 : (t266 == 0) = false := beq_eq_false_iff_ne.mpr c11
            have c11b1 : (t266 != 0) = true := bne_iff_ne.mpr c11
            (first | rw [c11b0] | (simp only [i64_w, i32_w]; rw [c11b0]) | skip)
            have H' := Aside0.mk H
            clear H
            go_wp2
            go_meet
            case rel => exact ⟨_, (true), (by first | rfl | (simp; done) | (simp [*]; done)), H', ⟨by have := HJ2.out; first | omega | exact Nat.le_refl _⟩, ⟨by repeat (first | (with_reducible first | exact HB.out | apply below_alloc | apply pw_below_drewN | apply below_drew1) | exact HB.out)⟩⟩
        case rest =>
          clear HC10
          try clear c1
          try clear c2
          try clear p2
          try clear c4
          try clear c4b0
          try clear c5
          try clear p6
          try clear c9
          try clear c11
          try clear c11b0
          try clear c11b1
          try clear c12
          try clear c12b0
          try clear c12b1
          try clear c13
          try clear c13b0
          try clear p2
          obtain ⟨kq, x46_9, rfl, HA, HJ9, HB⟩ := hcut
          cases kq with
          | zero => exact absurd HA.out (by simp [mapsheetslaw11_SeriesDoubles.j1])
          | succ kj9 =>
            have H := HA.out
            clear HA
            simp only [mapsheetslaw11_SeriesDoubles.j1] at H
            by_cases c14 : x46_9 = true
            · subst c14
              have H1 : (none) = some r := by rw [if_pos rfl] at H; exact H
              clear H
              have H := H1
              clear H1
              exact absurd H (by simp)
            · replace c14 := Bool.eq_false_iff.mpr c14
              subst c14
              have H1 : (if a1 > 4611686018427387904 then (mapsheetslaw11_SeriesDoubles.j2 kj9 a1 t265 true) else (mapsheetslaw11_SeriesDoubles.j2 kj9 a1 t265 (decide (a1 < (wrap64 ((wrap64 (a0 + (a0 / 1099511627776))) + 1)))))) = some r := by rw [if_neg (show ¬ (false = true) by decide)] at H; exact H
              clear H
              have H := H1
              clear H1
              have HC15 := Aside0.mk H
              clear H
              go_upto_region 7 with (fail)
              go_cut [57] (fun v57 wc => ∃ (kq : Nat) (x57_14 : Bool), v57 = .bool x57_14 ∧ Aside0 (mapsheetslaw11_SeriesDoubles.j2 kq a1 t265 x57_14 = some r) ∧ Aside0 (kq ≤ kj9) ∧ Aside0 (Below w.heap.size w wc))
              case first =>
                have H := HC15.out
                clear HC15
                by_cases c16 : a1 > 4611686018427387904
                · rw [if_pos c16] at H
                  have c16b0 : decide (4611686018427387904 < a1) = true := decide_eq_true c16
                  clear c16
                  (first | rw [c16b0] | (simp only [i64_w, i32_w]; rw [c16b0]) | skip)
                  have H' := Aside0.mk H
                  clear H
                  go_wp2
                  go_meet
                  case rel => exact ⟨_, (true), (by first | rfl | (simp; done) | (simp [*]; done)), H', ⟨by have := HJ2.out; have := HJ9.out; first | omega | exact Nat.le_refl _⟩, ⟨by repeat (first | (with_reducible first | exact HB.out | apply below_alloc | apply pw_below_drewN | apply below_drew1) | exact HB.out)⟩⟩
                · rw [if_neg c16] at H
                  have c16b0 : decide (4611686018427387904 < a1) = false := decide_eq_false c16
                  clear c16
                  (first | rw [c16b0] | (simp only [i64_w, i32_w]; rw [c16b0]) | skip)
                  have H' := Aside0.mk H
                  clear H
                  go_wp2
                  go_meet
                  case rel => exact ⟨_, (decide (a1 < (wrap64 ((wrap64 (a0 + (a0 / 1099511627776))) + 1)))), (by first | rfl | (simp; done) | (simp [*]; done)), H', ⟨by have := HJ2.out; have := HJ9.out; first | omega | exact Nat.le_refl _⟩, ⟨by repeat (first | (with_reducible first | exact HB.out | apply below_alloc | apply pw_below_drewN | apply below_drew1) | exact HB.out)⟩⟩
              case rest =>
                clear HC15
                try clear c1
                try clear c2
                try clear p2
                try clear c4
                try clear c4b0
                try clear c5
                try clear p6
                try clear c9
                try clear c11
                try clear c11b0
                try clear c11b1
                try clear c12
                try clear c12b0
                try clear c12b1
                try clear c13
                try clear c13b0
                try clear c14
                try clear c16
                try clear c16b0
                try clear p2
                try clear p6
                obtain ⟨kq, x57_14, rfl, HA, HJ14, HB⟩ := hcut
                cases kq with
                | zero => exact absurd HA.out (by simp [mapsheetslaw11_SeriesDoubles.j2])
                | succ kj14 =>
                  have H := HA.out
                  clear HA
                  simp only [mapsheetslaw11_SeriesDoubles.j2] at H
                  by_cases c17 : x57_14 = true
                  · subst c17
                    have H1 : ((mapsheetslaw11_awake.f kj14).bind fun t269 => (some t269)) = some r := by rw [if_pos rfl] at H; exact H
                    clear H
                    have H := H1
                    clear H1
                    replace H := Option.bind_eq_some_iff.mp H
                    obtain ⟨t269, A180, H⟩ := H
                    replace H : (some t269) = some r := H
                    have A18 := Aside0.mk A180
                    clear A180
                    obtain rfl := Option.some.inj H
                    go_wp2_with (first | ((with_reducible refine gate_callee (f := 18) rfl ?_); refine goesL_ (some 58) rfl rfl Try.func18 (by kernel_rfl) rfl #[] rfl (by (try simp only [List.map_toArray, List.map_cons, List.map_nil]); first | done | rfl | (simp only [List.length_drop, List.length_take]; rfl)) ?_; (with_reducible refine (mapsheetslaw11_awake.calls kj14  t269 _ A18.out).mono ?_); rintro e w19 ⟨rfl, hb⟩; refine ⟨_, rfl, ?_⟩; have n0_ := Aside0.mk (below_step (by repeat (first | (with_reducible first | exact HB.out | apply below_alloc | apply pw_below_drewN | apply below_drew1) | exact HB.out)) hb); clear HB; have HB := n0_; clear n0_; (try clear hb); (try clear hb2); (try clear hk); (try clear hi)))
                    go_ret
                    exact ⟨by first | rfl | (simp [errW_none, errW_some] <;> rfl) | (simp [*, errW_none, errW_some] <;> rfl), by repeat (first | (with_reducible first | exact HB.out | apply below_alloc | apply pw_below_drewN | apply below_drew1) | exact HB.out)⟩
                  · replace c17 := Bool.eq_false_iff.mpr c17
                    subst c17
                    have H1 : ((series_Log.f kj14 a1).bind fun bt270 => (if bt270.2 = 0 then (if t265 ≤ bt270.1 then ((mapsheetslaw11_awake.f kj14).bind fun t272 => (some t272)) else (none)) else (none))) = some r := by rw [if_neg (show ¬ (false = true) by decide)] at H; exact H
                    clear H
                    have H := H1
                    clear H1
                    replace H := Option.bind_eq_some_iff.mp H
                    obtain ⟨⟨t270, t271⟩, A200, H⟩ := H
                    replace H : (if t271 = 0 then (if t265 ≤ t270 then ((mapsheetslaw11_awake.f kj14).bind fun t272 => (some t272)) else (none)) else (none)) = some r := H
                    have A20 := Aside0.mk A200
                    clear A200
                    by_cases c21 : t271 = 0
                    · rw [if_pos c21] at H
                      have c21b0 : (t271 == 0) = true := beq_iff_eq.mpr c21
                      have c21b1 : (t271 != 0) = false := bne_eq_false_iff_eq.mpr c21
                      clear c21
                      by_cases c22 : t265 ≤ t270
                      · rw [if_pos c22] at H
                        have c22b0 : decide (t265 ≤ t270) = true := decide_eq_true c22
                        clear c22
                        replace H := Option.bind_eq_some_iff.mp H
                        obtain ⟨t272, A230, H⟩ := H
                        replace H : (some t272) = some r := H
                        have A23 := Aside0.mk A230
                        clear A230
                        obtain rfl := Option.some.inj H
                        go_wp2_with (first | ((with_reducible refine gate_callee (f := 21) rfl ?_); refine goesL_ (some 61) rfl rfl Try.func21 (by kernel_rfl) rfl #[.int .i64 a1] rfl (by (try simp only [List.map_toArray, List.map_cons, List.map_nil]); first | done | rfl | (simp only [List.length_drop, List.length_take]; rfl)) ?_; (with_reducible refine (series_Log.calls kj14 a1 t270 t271 _ A20.out).mono ?_); rintro e w' ⟨rfl, ⟨nd, rfl⟩⟩; refine ⟨_, rfl, ?_⟩) | (go_at_call 18; (with_reducible refine (mapsheetslaw11_awake.calls kj14  t272 _ A23.out).mono ?_); rintro e w24 ⟨rfl, hb⟩; have n0_ := Aside0.mk (below_step (by repeat (first | (with_reducible first | exact HB.out | apply below_alloc | apply pw_below_drewN | apply below_drew1) | exact HB.out)) hb); clear HB; have HB := n0_; clear n0_; (try clear hb); (try clear hb2); (try clear hk); (try clear hi)))
                        go_ret
                        exact ⟨by first | rfl | (simp [errW_none, errW_some] <;> rfl) | (simp [*, errW_none, errW_some] <;> rfl), by repeat (first | (with_reducible first | exact HB.out | apply below_alloc | apply pw_below_drewN | apply below_drew1) | exact HB.out)⟩
                      · rw [if_neg c22] at H
                        exact absurd H (by simp)
                    · rw [if_neg c21] at H
                      exact absurd H (by simp)

/-- THE ONE PURE STATEMENT of mapsheetslaw11_SeriesDoubles: yours. -/
def mapsheetslaw11_SeriesDoubles.Pure : Prop := ∀ (a0 : Int) (a1 : Int), (Lit.int .i64 a0).wf = true → (Lit.int .i64 a1).wf = true → ∃ k, mapsheetslaw11_SeriesDoubles.f k a0 a1 = some true
theorem mapsheetslaw11_SeriesDoubles.walk (P : mapsheetslaw11_SeriesDoubles.Pure) (a0 : Int) (a1 : Int) (w : World) (w0 : (Lit.int .i64 a0).wf = true) (w1 : (Lit.int .i64 a1).wf = true) :
    Calls Try.prog 9 #[.int .i64 a0, .int .i64 a1] w fun e w' => e = .returned (.bool true) ∧ Below w.heap.size w w' := by
  obtain ⟨k, h⟩ := P a0 a1 w0 w1
  refine (mapsheetslaw11_SeriesDoubles.calls k a0 a1 true w h).mono ?_
  rintro e w' ⟨rfl, hd⟩
  exact ⟨rfl, hd⟩

/-! ### mapsheetslaw11_SeriesOdd: function 10 -/
def mapsheetslaw11_SeriesOdd.j0 : Nat → Int → Bool → Option (Bool)
  | 0, _, _ => none
  | k + 1, x0, x19 => if x19 = true then ((mapsheetslaw11_awake.f k).bind fun t273 => (some t273)) else ((series_Artanh.f k x0).bind fun bt274 => ((series_Artanh.f k (wrap64 (-x0))).bind fun bt276 => ((series_Artanh.f k (wrap64 (x0 + 1))).bind fun bt278 => ((series_Log.f k (wrap64 (1073741824 + x0))).bind fun bt280 => ((series_Log.f k (wrap64 (1073741824 - x0))).bind fun bt282 => (if bt274.2 = 0 then (if bt276.2 = 0 then (if bt278.2 = 0 then (if bt280.2 = 0 then (if bt282.2 = 0 then (if bt276.1 = (wrap64 (-bt274.1)) then (if bt278.1 < bt274.1 then (none) else (if (wrap64 ((wrap64 (2 * bt274.1)) - (wrap64 (bt280.1 - bt282.1)))) ≥ (-2) then (if (wrap64 ((wrap64 (2 * bt274.1)) - (wrap64 (bt280.1 - bt282.1)))) ≤ 2 then ((mapsheetslaw11_awake.f k).bind fun t284 => (some t284)) else (none)) else (none))) else (none)) else (none)) else (none)) else (none)) else (none)) else (none)))))))
def mapsheetslaw11_SeriesOdd.f (k : Nat) (a0 : Int) : Option (Bool) := if a0 < 0 then (mapsheetslaw11_SeriesOdd.j0 k a0 true) else (mapsheetslaw11_SeriesOdd.j0 k a0 (decide (a0 ≥ 1073725440)))
theorem mapsheetslaw11_SeriesOdd.mono_l : ∀ k, (∀ y0 y1, LeO (mapsheetslaw11_SeriesOdd.j0 k y0 y1) (mapsheetslaw11_SeriesOdd.j0 (k + 1) y0 y1))
  | 0 => fun _ _ r h => by simp [mapsheetslaw11_SeriesOdd.j0] at h
  | k + 1 => by
    have ih0 := mapsheetslaw11_SeriesOdd.mono_l k
    · intro y0 y1
      unfold mapsheetslaw11_SeriesOdd.j0
      repeat' first
      | (with_reducible exact ih0 _ _)
      | (with_reducible exact mapsheetslaw11_awake.mono _)
      | (with_reducible exact series_Artanh.mono _ _)
      | (with_reducible exact series_Log.mono _ _)
      | (with_reducible exact LeO.refl _)
      | (with_reducible exact LeO.none _)
      | (with_reducible refine LeO.ite ?_ ?_)
      | (with_reducible refine LeO.bind ?_ (fun _ => ?_))
      | exact ih0 _ _
      | exact mapsheetslaw11_awake.mono _
      | exact series_Artanh.mono _ _
      | exact series_Log.mono _ _
      | exact LeO.none _
      | refine LeO.ite ?_ ?_
      | refine LeO.bind ?_ (fun _ => ?_)
theorem mapsheetslaw11_SeriesOdd.mono : ∀ a0 k, LeO (mapsheetslaw11_SeriesOdd.f k a0) (mapsheetslaw11_SeriesOdd.f (k + 1) a0) := by
  intro a0 k
  have ih0 := mapsheetslaw11_SeriesOdd.mono_l k
  unfold mapsheetslaw11_SeriesOdd.f
  repeat' first
      | (with_reducible exact ih0 _ _)
      | (with_reducible exact mapsheetslaw11_awake.mono _)
      | (with_reducible exact series_Artanh.mono _ _)
      | (with_reducible exact series_Log.mono _ _)
      | (with_reducible exact LeO.refl _)
      | (with_reducible exact LeO.none _)
      | (with_reducible refine LeO.ite ?_ ?_)
      | (with_reducible refine LeO.bind ?_ (fun _ => ?_))
      | exact ih0 _ _
      | exact mapsheetslaw11_awake.mono _
      | exact series_Artanh.mono _ _
      | exact series_Log.mono _ _
      | exact LeO.none _
      | refine LeO.ite ?_ ?_
      | refine LeO.bind ?_ (fun _ => ?_)
set_option maxHeartbeats 8000000 in
set_option maxRecDepth 100000 in
theorem mapsheetslaw11_SeriesOdd.calls (k : Nat) (a0 : Int) (r : Bool) (w : World) (h : mapsheetslaw11_SeriesOdd.f k a0 = some r) :
    Calls Try.prog 10 #[.int .i64 a0] w fun e w' => e = .returned (.bool r) ∧ Below w.heap.size w w' := by
  have HB := Aside0.mk (Below.refl w.heap.size w)
  have H : (if a0 < 0 then (mapsheetslaw11_SeriesOdd.j0 k a0 true) else (mapsheetslaw11_SeriesOdd.j0 k a0 (decide (a0 ≥ 1073725440)))) = some r := h
  clear h
  have HC2 := Aside0.mk H
  clear H
  go_enter Try.func10, Try.ntmps10
  go_upto_region 1 with (fail)
  go_cut [19] (fun v19 wc => ∃ (kq : Nat) (x19_1 : Bool), v19 = .bool x19_1 ∧ Aside0 (mapsheetslaw11_SeriesOdd.j0 kq a0 x19_1 = some r) ∧ Aside0 (kq ≤ k) ∧ Aside0 (Below w.heap.size w wc))
  case first =>
    have H := HC2.out
    clear HC2
    by_cases c3 : a0 < 0
    · rw [if_pos c3] at H
      have c3b0 : decide (a0 < 0) = true := decide_eq_true c3
      clear c3
      (first | rw [c3b0] | (simp only [i64_w, i32_w]; rw [c3b0]) | skip)
      have H' := Aside0.mk H
      clear H
      go_wp2
      go_meet
      case rel => exact ⟨_, (true), (by first | rfl | (simp; done) | (simp [*]; done)), H', ⟨by first | omega | exact Nat.le_refl _⟩, ⟨by repeat (first | (with_reducible first | exact HB.out | apply below_alloc | apply pw_below_drewN | apply below_drew1) | exact HB.out)⟩⟩
    · rw [if_neg c3] at H
      have c3b0 : decide (a0 < 0) = false := decide_eq_false c3
      clear c3
      (first | rw [c3b0] | (simp only [i64_w, i32_w]; rw [c3b0]) | skip)
      have H' := Aside0.mk H
      clear H
      go_wp2
      go_meet
      case rel => exact ⟨_, (decide (a0 ≥ 1073725440)), (by first | rfl | (simp; done) | (simp [*]; done)), H', ⟨by first | omega | exact Nat.le_refl _⟩, ⟨by repeat (first | (with_reducible first | exact HB.out | apply below_alloc | apply pw_below_drewN | apply below_drew1) | exact HB.out)⟩⟩
  case rest =>
    clear HC2
    try clear c1
    try clear p2
    try clear c3
    try clear c3b0
    obtain ⟨kq, x19_1, rfl, HA, HJ1, HB⟩ := hcut
    cases kq with
    | zero => exact absurd HA.out (by simp [mapsheetslaw11_SeriesOdd.j0])
    | succ kj1 =>
      have H := HA.out
      clear HA
      simp only [mapsheetslaw11_SeriesOdd.j0] at H
      by_cases c4 : x19_1 = true
      · subst c4
        have H1 : ((mapsheetslaw11_awake.f kj1).bind fun t273 => (some t273)) = some r := by rw [if_pos rfl] at H; exact H
        clear H
        have H := H1
        clear H1
        replace H := Option.bind_eq_some_iff.mp H
        obtain ⟨t273, A50, H⟩ := H
        replace H : (some t273) = some r := H
        have A5 := Aside0.mk A50
        clear A50
        obtain rfl := Option.some.inj H
        go_wp2_with (first | ((with_reducible refine gate_callee (f := 18) rfl ?_); refine goesL_ (some 20) rfl rfl Try.func18 (by kernel_rfl) rfl #[] rfl (by (try simp only [List.map_toArray, List.map_cons, List.map_nil]); first | done | rfl | (simp only [List.length_drop, List.length_take]; rfl)) ?_; (with_reducible refine (mapsheetslaw11_awake.calls kj1  t273 _ A5.out).mono ?_); rintro e w6 ⟨rfl, hb⟩; refine ⟨_, rfl, ?_⟩; have n0_ := Aside0.mk (below_step (by repeat (first | (with_reducible first | exact HB.out | apply below_alloc | apply pw_below_drewN | apply below_drew1) | exact HB.out)) hb); clear HB; have HB := n0_; clear n0_; (try clear hb); (try clear hb2); (try clear hk); (try clear hi)))
        go_ret
        exact ⟨by first | rfl | (simp [errW_none, errW_some] <;> rfl) | (simp [*, errW_none, errW_some] <;> rfl), by repeat (first | (with_reducible first | exact HB.out | apply below_alloc | apply pw_below_drewN | apply below_drew1) | exact HB.out)⟩
      · replace c4 := Bool.eq_false_iff.mpr c4
        subst c4
        have H1 : ((series_Artanh.f kj1 a0).bind fun bt274 => ((series_Artanh.f kj1 (wrap64 (-a0))).bind fun bt276 => ((series_Artanh.f kj1 (wrap64 (a0 + 1))).bind fun bt278 => ((series_Log.f kj1 (wrap64 (1073741824 + a0))).bind fun bt280 => ((series_Log.f kj1 (wrap64 (1073741824 - a0))).bind fun bt282 => (if bt274.2 = 0 then (if bt276.2 = 0 then (if bt278.2 = 0 then (if bt280.2 = 0 then (if bt282.2 = 0 then (if bt276.1 = (wrap64 (-bt274.1)) then (if bt278.1 < bt274.1 then (none) else (if (wrap64 ((wrap64 (2 * bt274.1)) - (wrap64 (bt280.1 - bt282.1)))) ≥ (-2) then (if (wrap64 ((wrap64 (2 * bt274.1)) - (wrap64 (bt280.1 - bt282.1)))) ≤ 2 then ((mapsheetslaw11_awake.f kj1).bind fun t284 => (some t284)) else (none)) else (none))) else (none)) else (none)) else (none)) else (none)) else (none)) else (none))))))) = some r := by rw [if_neg (show ¬ (false = true) by decide)] at H; exact H
        clear H
        have H := H1
        clear H1
        replace H := Option.bind_eq_some_iff.mp H
        obtain ⟨⟨t274, t275⟩, A70, H⟩ := H
        replace H : ((series_Artanh.f kj1 (wrap64 (-a0))).bind fun bt276 => ((series_Artanh.f kj1 (wrap64 (a0 + 1))).bind fun bt278 => ((series_Log.f kj1 (wrap64 (1073741824 + a0))).bind fun bt280 => ((series_Log.f kj1 (wrap64 (1073741824 - a0))).bind fun bt282 => (if t275 = 0 then (if bt276.2 = 0 then (if bt278.2 = 0 then (if bt280.2 = 0 then (if bt282.2 = 0 then (if bt276.1 = (wrap64 (-t274)) then (if bt278.1 < t274 then (none) else (if (wrap64 ((wrap64 (2 * t274)) - (wrap64 (bt280.1 - bt282.1)))) ≥ (-2) then (if (wrap64 ((wrap64 (2 * t274)) - (wrap64 (bt280.1 - bt282.1)))) ≤ 2 then ((mapsheetslaw11_awake.f kj1).bind fun t284 => (some t284)) else (none)) else (none))) else (none)) else (none)) else (none)) else (none)) else (none)) else (none)))))) = some r := H
        have A7 := Aside0.mk A70
        clear A70
        replace H := Option.bind_eq_some_iff.mp H
        obtain ⟨⟨t276, t277⟩, A80, H⟩ := H
        replace H : ((series_Artanh.f kj1 (wrap64 (a0 + 1))).bind fun bt278 => ((series_Log.f kj1 (wrap64 (1073741824 + a0))).bind fun bt280 => ((series_Log.f kj1 (wrap64 (1073741824 - a0))).bind fun bt282 => (if t275 = 0 then (if t277 = 0 then (if bt278.2 = 0 then (if bt280.2 = 0 then (if bt282.2 = 0 then (if t276 = (wrap64 (-t274)) then (if bt278.1 < t274 then (none) else (if (wrap64 ((wrap64 (2 * t274)) - (wrap64 (bt280.1 - bt282.1)))) ≥ (-2) then (if (wrap64 ((wrap64 (2 * t274)) - (wrap64 (bt280.1 - bt282.1)))) ≤ 2 then ((mapsheetslaw11_awake.f kj1).bind fun t284 => (some t284)) else (none)) else (none))) else (none)) else (none)) else (none)) else (none)) else (none)) else (none))))) = some r := H
        have A8 := Aside0.mk A80
        clear A80
        replace H := Option.bind_eq_some_iff.mp H
        obtain ⟨⟨t278, t279⟩, A90, H⟩ := H
        replace H : ((series_Log.f kj1 (wrap64 (1073741824 + a0))).bind fun bt280 => ((series_Log.f kj1 (wrap64 (1073741824 - a0))).bind fun bt282 => (if t275 = 0 then (if t277 = 0 then (if t279 = 0 then (if bt280.2 = 0 then (if bt282.2 = 0 then (if t276 = (wrap64 (-t274)) then (if t278 < t274 then (none) else (if (wrap64 ((wrap64 (2 * t274)) - (wrap64 (bt280.1 - bt282.1)))) ≥ (-2) then (if (wrap64 ((wrap64 (2 * t274)) - (wrap64 (bt280.1 - bt282.1)))) ≤ 2 then ((mapsheetslaw11_awake.f kj1).bind fun t284 => (some t284)) else (none)) else (none))) else (none)) else (none)) else (none)) else (none)) else (none)) else (none)))) = some r := H
        have A9 := Aside0.mk A90
        clear A90
        replace H := Option.bind_eq_some_iff.mp H
        obtain ⟨⟨t280, t281⟩, A100, H⟩ := H
        replace H : ((series_Log.f kj1 (wrap64 (1073741824 - a0))).bind fun bt282 => (if t275 = 0 then (if t277 = 0 then (if t279 = 0 then (if t281 = 0 then (if bt282.2 = 0 then (if t276 = (wrap64 (-t274)) then (if t278 < t274 then (none) else (if (wrap64 ((wrap64 (2 * t274)) - (wrap64 (t280 - bt282.1)))) ≥ (-2) then (if (wrap64 ((wrap64 (2 * t274)) - (wrap64 (t280 - bt282.1)))) ≤ 2 then ((mapsheetslaw11_awake.f kj1).bind fun t284 => (some t284)) else (none)) else (none))) else (none)) else (none)) else (none)) else (none)) else (none)) else (none))) = some r := H
        have A10 := Aside0.mk A100
        clear A100
        replace H := Option.bind_eq_some_iff.mp H
        obtain ⟨⟨t282, t283⟩, A110, H⟩ := H
        replace H : (if t275 = 0 then (if t277 = 0 then (if t279 = 0 then (if t281 = 0 then (if t283 = 0 then (if t276 = (wrap64 (-t274)) then (if t278 < t274 then (none) else (if (wrap64 ((wrap64 (2 * t274)) - (wrap64 (t280 - t282)))) ≥ (-2) then (if (wrap64 ((wrap64 (2 * t274)) - (wrap64 (t280 - t282)))) ≤ 2 then ((mapsheetslaw11_awake.f kj1).bind fun t284 => (some t284)) else (none)) else (none))) else (none)) else (none)) else (none)) else (none)) else (none)) else (none)) = some r := H
        have A11 := Aside0.mk A110
        clear A110
        by_cases c12 : t275 = 0
        · rw [if_pos c12] at H
          have c12b0 : (t275 == 0) = true := beq_iff_eq.mpr c12
          have c12b1 : (t275 != 0) = false := bne_eq_false_iff_eq.mpr c12
          clear c12
          by_cases c13 : t277 = 0
          · rw [if_pos c13] at H
            have c13b0 : (t277 == 0) = true := beq_iff_eq.mpr c13
            have c13b1 : (t277 != 0) = false := bne_eq_false_iff_eq.mpr c13
            clear c13
            by_cases c14 : t279 = 0
            · rw [if_pos c14] at H
              have c14b0 : (t279 == 0) = true := beq_iff_eq.mpr c14
              have c14b1 : (t279 != 0) = false := bne_eq_false_iff_eq.mpr c14
              clear c14
              by_cases c15 : t281 = 0
              · rw [if_pos c15] at H
                have c15b0 : (t281 == 0) = true := beq_iff_eq.mpr c15
                have c15b1 : (t281 != 0) = false := bne_eq_false_iff_eq.mpr c15
                clear c15
                by_cases c16 : t283 = 0
                · rw [if_pos c16] at H
                  have c16b0 : (t283 == 0) = true := beq_iff_eq.mpr c16
                  have c16b1 : (t283 != 0) = false := bne_eq_false_iff_eq.mpr c16
                  clear c16
                  by_cases c17 : t276 = (wrap64 (-t274))
                  · rw [if_pos c17] at H
                    have c17b0 : (t276 == (wrap64 (-t274))) = true := beq_iff_eq.mpr c17
                    have c17b1 : (t276 != (wrap64 (-t274))) = false := bne_eq_false_iff_eq.mpr c17
                    clear c17
                    by_cases c18 : t278 < t274
                    · rw [if_pos c18] at H
                      exact absurd H (by simp)
                    · rw [if_neg c18] at H
                      have c18b0 : decide (t278 < t274) = false := decide_eq_false c18
                      clear c18
                      by_cases c19 : (wrap64 ((wrap64 (2 * t274)) - (wrap64 (t280 - t282)))) ≥ (-2)
                      · rw [if_pos c19] at H
                        have c19b0 : decide ((-2) ≤ (wrap64 ((wrap64 (2 * t274)) - (wrap64 (t280 - t282))))) = true := decide_eq_true c19
                        clear c19
                        by_cases c20 : (wrap64 ((wrap64 (2 * t274)) - (wrap64 (t280 - t282)))) ≤ 2
                        · rw [if_pos c20] at H
                          have c20b0 : decide ((wrap64 ((wrap64 (2 * t274)) - (wrap64 (t280 - t282)))) ≤ 2) = true := decide_eq_true c20
                          clear c20
                          replace H := Option.bind_eq_some_iff.mp H
                          obtain ⟨t284, A210, H⟩ := H
                          replace H : (some t284) = some r := H
                          have A21 := Aside0.mk A210
                          clear A210
                          obtain rfl := Option.some.inj H
                          go_wp2_with (first | ((with_reducible refine gate_callee (f := 23) rfl ?_); refine goesL_ (some 23) rfl rfl Try.func23 (by kernel_rfl) rfl #[.int .i64 a0] rfl (by (try simp only [List.map_toArray, List.map_cons, List.map_nil]); first | done | rfl | (simp only [List.length_drop, List.length_take]; rfl)) ?_; (with_reducible refine (series_Artanh.calls kj1 a0 t274 t275 _ A7.out).mono ?_); rintro e w' ⟨rfl, ⟨nd, rfl⟩⟩; refine ⟨_, rfl, ?_⟩) | ((with_reducible refine gate_callee (f := 23) rfl ?_); refine goesL_ (some 29) rfl rfl Try.func23 (by kernel_rfl) rfl #[.int .i64 (wrap64 (-a0))] rfl (by (try simp only [List.map_toArray, List.map_cons, List.map_nil]); first | done | rfl | (simp only [List.length_drop, List.length_take]; rfl)) ?_; (with_reducible refine (series_Artanh.calls kj1 (wrap64 (-a0)) t276 t277 _ A8.out).mono ?_); rintro e w' ⟨rfl, ⟨nd, rfl⟩⟩; refine ⟨_, rfl, ?_⟩) | ((with_reducible refine gate_callee (f := 23) rfl ?_); refine goesL_ (some 35) rfl rfl Try.func23 (by kernel_rfl) rfl #[.int .i64 (wrap64 (a0 + 1))] rfl (by (try simp only [List.map_toArray, List.map_cons, List.map_nil]); first | done | rfl | (simp only [List.length_drop, List.length_take]; rfl)) ?_; (with_reducible refine (series_Artanh.calls kj1 (wrap64 (a0 + 1)) t278 t279 _ A9.out).mono ?_); rintro e w' ⟨rfl, ⟨nd, rfl⟩⟩; refine ⟨_, rfl, ?_⟩) | ((with_reducible refine gate_callee (f := 21) rfl ?_); refine goesL_ (some 41) rfl rfl Try.func21 (by kernel_rfl) rfl #[.int .i64 (wrap64 (1073741824 + a0))] rfl (by (try simp only [List.map_toArray, List.map_cons, List.map_nil]); first | done | rfl | (simp only [List.length_drop, List.length_take]; rfl)) ?_; (with_reducible refine (series_Log.calls kj1 (wrap64 (1073741824 + a0)) t280 t281 _ A10.out).mono ?_); rintro e w' ⟨rfl, ⟨nd, rfl⟩⟩; refine ⟨_, rfl, ?_⟩) | ((with_reducible refine gate_callee (f := 21) rfl ?_); refine goesL_ (some 47) rfl rfl Try.func21 (by kernel_rfl) rfl #[.int .i64 (wrap64 (1073741824 - a0))] rfl (by (try simp only [List.map_toArray, List.map_cons, List.map_nil]); first | done | rfl | (simp only [List.length_drop, List.length_take]; rfl)) ?_; (with_reducible refine (series_Log.calls kj1 (wrap64 (1073741824 - a0)) t282 t283 _ A11.out).mono ?_); rintro e w' ⟨rfl, ⟨nd, rfl⟩⟩; refine ⟨_, rfl, ?_⟩) | (go_at_call 18; (with_reducible refine (mapsheetslaw11_awake.calls kj1  t284 _ A21.out).mono ?_); rintro e w22 ⟨rfl, hb⟩; have n0_ := Aside0.mk (below_step (by repeat (first | (with_reducible first | exact HB.out | apply below_alloc | apply pw_below_drewN | apply below_drew1) | exact HB.out)) hb); clear HB; have HB := n0_; clear n0_; (try clear hb); (try clear hb2); (try clear hk); (try clear hi)))
                          go_ret
                          exact ⟨by first | rfl | (simp [errW_none, errW_some] <;> rfl) | (simp [*, errW_none, errW_some] <;> rfl), by repeat (first | (with_reducible first | exact HB.out | apply below_alloc | apply pw_below_drewN | apply below_drew1) | exact HB.out)⟩
                        · rw [if_neg c20] at H
                          exact absurd H (by simp)
                      · rw [if_neg c19] at H
                        exact absurd H (by simp)
                  · rw [if_neg c17] at H
                    exact absurd H (by simp)
                · rw [if_neg c16] at H
                  exact absurd H (by simp)
              · rw [if_neg c15] at H
                exact absurd H (by simp)
            · rw [if_neg c14] at H
              exact absurd H (by simp)
          · rw [if_neg c13] at H
            exact absurd H (by simp)
        · rw [if_neg c12] at H
          exact absurd H (by simp)

/-- THE ONE PURE STATEMENT of mapsheetslaw11_SeriesOdd: yours. -/
def mapsheetslaw11_SeriesOdd.Pure : Prop := ∀ (a0 : Int), (Lit.int .i64 a0).wf = true → ∃ k, mapsheetslaw11_SeriesOdd.f k a0 = some true
theorem mapsheetslaw11_SeriesOdd.walk (P : mapsheetslaw11_SeriesOdd.Pure) (a0 : Int) (w : World) (w0 : (Lit.int .i64 a0).wf = true) :
    Calls Try.prog 10 #[.int .i64 a0] w fun e w' => e = .returned (.bool true) ∧ Below w.heap.size w w' := by
  obtain ⟨k, h⟩ := P a0 w0
  refine (mapsheetslaw11_SeriesOdd.calls k a0 true w h).mono ?_
  rintro e w' ⟨rfl, hd⟩
  exact ⟨rfl, hd⟩

/-! ### mapsheetslaw11_SeriesSteps: function 11 -/
def mapsheetslaw11_SeriesSteps.j0 : Nat → Int → Int → Bool → Option (Bool)
  | 0, _, _, _ => none
  | k + 1, x0, x1, x20 => if x20 = true then ((mapsheetslaw11_awake.f k).bind fun t285 => (some t285)) else ((series_Rad.f k (wrap64 (x0 + 1))).bind fun t286 => ((series_Rad.f k x0).bind fun t287 => ((series_Rad.f k (wrap64 (x0 + x1))).bind fun t288 => ((series_Rad.f k x0).bind fun t289 => ((series_Rad.f k x1).bind fun t290 => (if (wrap64 (t286 - t287)) ≥ 5205 then (if (wrap64 (t286 - t287)) ≤ 5206 then (if (wrap64 ((wrap64 (t288 - t289)) - t290)) ≥ (-1) then (if (wrap64 ((wrap64 (t288 - t289)) - t290)) ≤ 1 then ((mapsheetslaw11_awake.f k).bind fun t291 => (some t291)) else (none)) else (none)) else (none)) else (none)))))))
def mapsheetslaw11_SeriesSteps.f (k : Nat) (a0 : Int) (a1 : Int) : Option (Bool) := if a0 < (-1073741824) then (mapsheetslaw11_SeriesSteps.j0 k a0 a1 true) else (if a0 > 1073741824 then (mapsheetslaw11_SeriesSteps.j0 k a0 a1 true) else (if a1 < (-1073741824) then (mapsheetslaw11_SeriesSteps.j0 k a0 a1 true) else (mapsheetslaw11_SeriesSteps.j0 k a0 a1 (decide (a1 > 1073741824)))))
theorem mapsheetslaw11_SeriesSteps.mono_l : ∀ k, (∀ y0 y1 y2, LeO (mapsheetslaw11_SeriesSteps.j0 k y0 y1 y2) (mapsheetslaw11_SeriesSteps.j0 (k + 1) y0 y1 y2))
  | 0 => fun _ _ _ r h => by simp [mapsheetslaw11_SeriesSteps.j0] at h
  | k + 1 => by
    have ih0 := mapsheetslaw11_SeriesSteps.mono_l k
    · intro y0 y1 y2
      unfold mapsheetslaw11_SeriesSteps.j0
      repeat' first
      | (with_reducible exact ih0 _ _ _)
      | (with_reducible exact mapsheetslaw11_awake.mono _)
      | (with_reducible exact series_Rad.mono _ _)
      | (with_reducible exact LeO.refl _)
      | (with_reducible exact LeO.none _)
      | (with_reducible refine LeO.ite ?_ ?_)
      | (with_reducible refine LeO.bind ?_ (fun _ => ?_))
      | exact ih0 _ _ _
      | exact mapsheetslaw11_awake.mono _
      | exact series_Rad.mono _ _
      | exact LeO.none _
      | refine LeO.ite ?_ ?_
      | refine LeO.bind ?_ (fun _ => ?_)
theorem mapsheetslaw11_SeriesSteps.mono : ∀ a0 a1 k, LeO (mapsheetslaw11_SeriesSteps.f k a0 a1) (mapsheetslaw11_SeriesSteps.f (k + 1) a0 a1) := by
  intro a0 a1 k
  have ih0 := mapsheetslaw11_SeriesSteps.mono_l k
  unfold mapsheetslaw11_SeriesSteps.f
  repeat' first
      | (with_reducible exact ih0 _ _ _)
      | (with_reducible exact mapsheetslaw11_awake.mono _)
      | (with_reducible exact series_Rad.mono _ _)
      | (with_reducible exact LeO.refl _)
      | (with_reducible exact LeO.none _)
      | (with_reducible refine LeO.ite ?_ ?_)
      | (with_reducible refine LeO.bind ?_ (fun _ => ?_))
      | exact ih0 _ _ _
      | exact mapsheetslaw11_awake.mono _
      | exact series_Rad.mono _ _
      | exact LeO.none _
      | refine LeO.ite ?_ ?_
      | refine LeO.bind ?_ (fun _ => ?_)
set_option maxHeartbeats 8000000 in
set_option maxRecDepth 100000 in
theorem mapsheetslaw11_SeriesSteps.calls (k : Nat) (a0 : Int) (a1 : Int) (r : Bool) (w : World) (h : mapsheetslaw11_SeriesSteps.f k a0 a1 = some r) :
    Calls Try.prog 11 #[.int .i64 a0, .int .i64 a1] w fun e w' => e = .returned (.bool r) ∧ Below w.heap.size w w' := by
  have HB := Aside0.mk (Below.refl w.heap.size w)
  have H : (if a0 < (-1073741824) then (mapsheetslaw11_SeriesSteps.j0 k a0 a1 true) else (if a0 > 1073741824 then (mapsheetslaw11_SeriesSteps.j0 k a0 a1 true) else (if a1 < (-1073741824) then (mapsheetslaw11_SeriesSteps.j0 k a0 a1 true) else (mapsheetslaw11_SeriesSteps.j0 k a0 a1 (decide (a1 > 1073741824)))))) = some r := h
  clear h
  have HC3 := Aside0.mk H
  clear H
  go_enter Try.func11, Try.ntmps11
  go_upto_region 1 with (fail)
  go_cut [20] (fun v20 wc => ∃ (kq : Nat) (x20_2 : Bool), v20 = .bool x20_2 ∧ Aside0 (mapsheetslaw11_SeriesSteps.j0 kq a0 a1 x20_2 = some r) ∧ Aside0 (kq ≤ k) ∧ Aside0 (Below w.heap.size w wc))
  case first =>
    have H := HC3.out
    clear HC3
    by_cases c4 : a0 < (-1073741824)
    · rw [if_pos c4] at H
      have c4b0 : decide (a0 < (-1073741824)) = true := decide_eq_true c4
      clear c4
      (first | rw [c4b0] | (simp only [i64_w, i32_w]; rw [c4b0]) | skip)
      have H' := Aside0.mk H
      clear H
      go_wp2
      go_meet
      case rel => exact ⟨_, (true), (by first | rfl | (simp; done) | (simp [*]; done)), H', ⟨by first | omega | exact Nat.le_refl _⟩, ⟨by repeat (first | (with_reducible first | exact HB.out | apply below_alloc | apply pw_below_drewN | apply below_drew1) | exact HB.out)⟩⟩
    · rw [if_neg c4] at H
      have c4b0 : decide (a0 < (-1073741824)) = false := decide_eq_false c4
      clear c4
      (first | rw [c4b0] | (simp only [i64_w, i32_w]; rw [c4b0]) | skip)
      by_cases c5 : a0 > 1073741824
      · rw [if_pos c5] at H
        have c5b0 : decide (1073741824 < a0) = true := decide_eq_true c5
        clear c5
        have H' := Aside0.mk H
        clear H
        go_wp2
        go_meet
        case rel => exact ⟨_, (true), (by first | rfl | (simp; done) | (simp [*]; done)), H', ⟨by first | omega | exact Nat.le_refl _⟩, ⟨by repeat (first | (with_reducible first | exact HB.out | apply below_alloc | apply pw_below_drewN | apply below_drew1) | exact HB.out)⟩⟩
      · rw [if_neg c5] at H
        have c5b0 : decide (1073741824 < a0) = false := decide_eq_false c5
        clear c5
        by_cases c6 : a1 < (-1073741824)
        · rw [if_pos c6] at H
          have c6b0 : decide (a1 < (-1073741824)) = true := decide_eq_true c6
          clear c6
          have H' := Aside0.mk H
          clear H
          go_wp2
          go_meet
          case rel => exact ⟨_, (true), (by first | rfl | (simp; done) | (simp [*]; done)), H', ⟨by first | omega | exact Nat.le_refl _⟩, ⟨by repeat (first | (with_reducible first | exact HB.out | apply below_alloc | apply pw_below_drewN | apply below_drew1) | exact HB.out)⟩⟩
        · rw [if_neg c6] at H
          have c6b0 : decide (a1 < (-1073741824)) = false := decide_eq_false c6
          clear c6
          have H' := Aside0.mk H
          clear H
          go_wp2
          go_meet
          case rel => exact ⟨_, (decide (a1 > 1073741824)), (by first | rfl | (simp; done) | (simp [*]; done)), H', ⟨by first | omega | exact Nat.le_refl _⟩, ⟨by repeat (first | (with_reducible first | exact HB.out | apply below_alloc | apply pw_below_drewN | apply below_drew1) | exact HB.out)⟩⟩
  case rest =>
    clear HC3
    try clear c1
    try clear p2
    try clear c4
    try clear c4b0
    try clear c5
    try clear c5b0
    try clear c6
    try clear c6b0
    obtain ⟨kq, x20_2, rfl, HA, HJ2, HB⟩ := hcut
    cases kq with
    | zero => exact absurd HA.out (by simp [mapsheetslaw11_SeriesSteps.j0])
    | succ kj2 =>
      have H := HA.out
      clear HA
      simp only [mapsheetslaw11_SeriesSteps.j0] at H
      by_cases c7 : x20_2 = true
      · subst c7
        have H1 : ((mapsheetslaw11_awake.f kj2).bind fun t285 => (some t285)) = some r := by rw [if_pos rfl] at H; exact H
        clear H
        have H := H1
        clear H1
        replace H := Option.bind_eq_some_iff.mp H
        obtain ⟨t285, A80, H⟩ := H
        replace H : (some t285) = some r := H
        have A8 := Aside0.mk A80
        clear A80
        obtain rfl := Option.some.inj H
        go_wp2_with (first | ((with_reducible refine gate_callee (f := 18) rfl ?_); refine goesL_ (some 21) rfl rfl Try.func18 (by kernel_rfl) rfl #[] rfl (by (try simp only [List.map_toArray, List.map_cons, List.map_nil]); first | done | rfl | (simp only [List.length_drop, List.length_take]; rfl)) ?_; (with_reducible refine (mapsheetslaw11_awake.calls kj2  t285 _ A8.out).mono ?_); rintro e w9 ⟨rfl, hb⟩; refine ⟨_, rfl, ?_⟩; have n0_ := Aside0.mk (below_step (by repeat (first | (with_reducible first | exact HB.out | apply below_alloc | apply pw_below_drewN | apply below_drew1) | exact HB.out)) hb); clear HB; have HB := n0_; clear n0_; (try clear hb); (try clear hb2); (try clear hk); (try clear hi)))
        go_ret
        exact ⟨by first | rfl | (simp [errW_none, errW_some] <;> rfl) | (simp [*, errW_none, errW_some] <;> rfl), by repeat (first | (with_reducible first | exact HB.out | apply below_alloc | apply pw_below_drewN | apply below_drew1) | exact HB.out)⟩
      · replace c7 := Bool.eq_false_iff.mpr c7
        subst c7
        have H1 : ((series_Rad.f kj2 (wrap64 (a0 + 1))).bind fun t286 => ((series_Rad.f kj2 a0).bind fun t287 => ((series_Rad.f kj2 (wrap64 (a0 + a1))).bind fun t288 => ((series_Rad.f kj2 a0).bind fun t289 => ((series_Rad.f kj2 a1).bind fun t290 => (if (wrap64 (t286 - t287)) ≥ 5205 then (if (wrap64 (t286 - t287)) ≤ 5206 then (if (wrap64 ((wrap64 (t288 - t289)) - t290)) ≥ (-1) then (if (wrap64 ((wrap64 (t288 - t289)) - t290)) ≤ 1 then ((mapsheetslaw11_awake.f kj2).bind fun t291 => (some t291)) else (none)) else (none)) else (none)) else (none))))))) = some r := by rw [if_neg (show ¬ (false = true) by decide)] at H; exact H
        clear H
        have H := H1
        clear H1
        replace H := Option.bind_eq_some_iff.mp H
        obtain ⟨t286, A100, H⟩ := H
        replace H : ((series_Rad.f kj2 a0).bind fun t287 => ((series_Rad.f kj2 (wrap64 (a0 + a1))).bind fun t288 => ((series_Rad.f kj2 a0).bind fun t289 => ((series_Rad.f kj2 a1).bind fun t290 => (if (wrap64 (t286 - t287)) ≥ 5205 then (if (wrap64 (t286 - t287)) ≤ 5206 then (if (wrap64 ((wrap64 (t288 - t289)) - t290)) ≥ (-1) then (if (wrap64 ((wrap64 (t288 - t289)) - t290)) ≤ 1 then ((mapsheetslaw11_awake.f kj2).bind fun t291 => (some t291)) else (none)) else (none)) else (none)) else (none)))))) = some r := H
        have A10 := Aside0.mk A100
        clear A100
        replace H := Option.bind_eq_some_iff.mp H
        obtain ⟨t287, A110, H⟩ := H
        replace H : ((series_Rad.f kj2 (wrap64 (a0 + a1))).bind fun t288 => ((series_Rad.f kj2 a0).bind fun t289 => ((series_Rad.f kj2 a1).bind fun t290 => (if (wrap64 (t286 - t287)) ≥ 5205 then (if (wrap64 (t286 - t287)) ≤ 5206 then (if (wrap64 ((wrap64 (t288 - t289)) - t290)) ≥ (-1) then (if (wrap64 ((wrap64 (t288 - t289)) - t290)) ≤ 1 then ((mapsheetslaw11_awake.f kj2).bind fun t291 => (some t291)) else (none)) else (none)) else (none)) else (none))))) = some r := H
        have A11 := Aside0.mk A110
        clear A110
        replace H := Option.bind_eq_some_iff.mp H
        obtain ⟨t288, A120, H⟩ := H
        replace H : ((series_Rad.f kj2 a0).bind fun t289 => ((series_Rad.f kj2 a1).bind fun t290 => (if (wrap64 (t286 - t287)) ≥ 5205 then (if (wrap64 (t286 - t287)) ≤ 5206 then (if (wrap64 ((wrap64 (t288 - t289)) - t290)) ≥ (-1) then (if (wrap64 ((wrap64 (t288 - t289)) - t290)) ≤ 1 then ((mapsheetslaw11_awake.f kj2).bind fun t291 => (some t291)) else (none)) else (none)) else (none)) else (none)))) = some r := H
        have A12 := Aside0.mk A120
        clear A120
        replace H := Option.bind_eq_some_iff.mp H
        obtain ⟨t289, A130, H⟩ := H
        replace H : ((series_Rad.f kj2 a1).bind fun t290 => (if (wrap64 (t286 - t287)) ≥ 5205 then (if (wrap64 (t286 - t287)) ≤ 5206 then (if (wrap64 ((wrap64 (t288 - t289)) - t290)) ≥ (-1) then (if (wrap64 ((wrap64 (t288 - t289)) - t290)) ≤ 1 then ((mapsheetslaw11_awake.f kj2).bind fun t291 => (some t291)) else (none)) else (none)) else (none)) else (none))) = some r := H
        have A13 := Aside0.mk A130
        clear A130
        replace H := Option.bind_eq_some_iff.mp H
        obtain ⟨t290, A140, H⟩ := H
        replace H : (if (wrap64 (t286 - t287)) ≥ 5205 then (if (wrap64 (t286 - t287)) ≤ 5206 then (if (wrap64 ((wrap64 (t288 - t289)) - t290)) ≥ (-1) then (if (wrap64 ((wrap64 (t288 - t289)) - t290)) ≤ 1 then ((mapsheetslaw11_awake.f kj2).bind fun t291 => (some t291)) else (none)) else (none)) else (none)) else (none)) = some r := H
        have A14 := Aside0.mk A140
        clear A140
        by_cases c15 : (wrap64 (t286 - t287)) ≥ 5205
        · rw [if_pos c15] at H
          have c15b0 : decide (5205 ≤ (wrap64 (t286 - t287))) = true := decide_eq_true c15
          clear c15
          by_cases c16 : (wrap64 (t286 - t287)) ≤ 5206
          · rw [if_pos c16] at H
            have c16b0 : decide ((wrap64 (t286 - t287)) ≤ 5206) = true := decide_eq_true c16
            clear c16
            by_cases c17 : (wrap64 ((wrap64 (t288 - t289)) - t290)) ≥ (-1)
            · rw [if_pos c17] at H
              have c17b0 : decide ((-1) ≤ (wrap64 ((wrap64 (t288 - t289)) - t290))) = true := decide_eq_true c17
              clear c17
              by_cases c18 : (wrap64 ((wrap64 (t288 - t289)) - t290)) ≤ 1
              · rw [if_pos c18] at H
                have c18b0 : decide ((wrap64 ((wrap64 (t288 - t289)) - t290)) ≤ 1) = true := decide_eq_true c18
                clear c18
                replace H := Option.bind_eq_some_iff.mp H
                obtain ⟨t291, A190, H⟩ := H
                replace H : (some t291) = some r := H
                have A19 := Aside0.mk A190
                clear A190
                obtain rfl := Option.some.inj H
                go_wp2_with (first | ((with_reducible refine gate_callee (f := 12) rfl ?_); refine goesL_ (some 24) rfl rfl Try.func12 (by kernel_rfl) rfl #[.int .i64 (wrap64 (a0 + 1))] rfl (by (try simp only [List.map_toArray, List.map_cons, List.map_nil]); first | done | rfl | (simp only [List.length_drop, List.length_take]; rfl)) ?_; (with_reducible refine (series_Rad.calls kj2 (wrap64 (a0 + 1)) t286 _ A10.out).mono ?_); rintro e w' ⟨rfl, ⟨nd, rfl⟩⟩; refine ⟨_, rfl, ?_⟩) | ((with_reducible refine gate_callee (f := 12) rfl ?_); refine goesL_ (some 26) rfl rfl Try.func12 (by kernel_rfl) rfl #[.int .i64 a0] rfl (by (try simp only [List.map_toArray, List.map_cons, List.map_nil]); first | done | rfl | (simp only [List.length_drop, List.length_take]; rfl)) ?_; (with_reducible refine (series_Rad.calls kj2 a0 t287 _ A11.out).mono ?_); rintro e w' ⟨rfl, ⟨nd, rfl⟩⟩; refine ⟨_, rfl, ?_⟩) | ((with_reducible refine gate_callee (f := 12) rfl ?_); refine goesL_ (some 31) rfl rfl Try.func12 (by kernel_rfl) rfl #[.int .i64 (wrap64 (a0 + a1))] rfl (by (try simp only [List.map_toArray, List.map_cons, List.map_nil]); first | done | rfl | (simp only [List.length_drop, List.length_take]; rfl)) ?_; (with_reducible refine (series_Rad.calls kj2 (wrap64 (a0 + a1)) t288 _ A12.out).mono ?_); rintro e w' ⟨rfl, ⟨nd, rfl⟩⟩; refine ⟨_, rfl, ?_⟩) | ((with_reducible refine gate_callee (f := 12) rfl ?_); refine goesL_ (some 33) rfl rfl Try.func12 (by kernel_rfl) rfl #[.int .i64 a0] rfl (by (try simp only [List.map_toArray, List.map_cons, List.map_nil]); first | done | rfl | (simp only [List.length_drop, List.length_take]; rfl)) ?_; (with_reducible refine (series_Rad.calls kj2 a0 t289 _ A13.out).mono ?_); rintro e w' ⟨rfl, ⟨nd, rfl⟩⟩; refine ⟨_, rfl, ?_⟩) | ((with_reducible refine gate_callee (f := 12) rfl ?_); refine goesL_ (some 36) rfl rfl Try.func12 (by kernel_rfl) rfl #[.int .i64 a1] rfl (by (try simp only [List.map_toArray, List.map_cons, List.map_nil]); first | done | rfl | (simp only [List.length_drop, List.length_take]; rfl)) ?_; (with_reducible refine (series_Rad.calls kj2 a1 t290 _ A14.out).mono ?_); rintro e w' ⟨rfl, ⟨nd, rfl⟩⟩; refine ⟨_, rfl, ?_⟩) | (go_at_call 18; (with_reducible refine (mapsheetslaw11_awake.calls kj2  t291 _ A19.out).mono ?_); rintro e w20 ⟨rfl, hb⟩; have n0_ := Aside0.mk (below_step (by repeat (first | (with_reducible first | exact HB.out | apply below_alloc | apply pw_below_drewN | apply below_drew1) | exact HB.out)) hb); clear HB; have HB := n0_; clear n0_; (try clear hb); (try clear hb2); (try clear hk); (try clear hi)))
                go_ret
                exact ⟨by first | rfl | (simp [errW_none, errW_some] <;> rfl) | (simp [*, errW_none, errW_some] <;> rfl), by repeat (first | (with_reducible first | exact HB.out | apply below_alloc | apply pw_below_drewN | apply below_drew1) | exact HB.out)⟩
              · rw [if_neg c18] at H
                exact absurd H (by simp)
            · rw [if_neg c17] at H
              exact absurd H (by simp)
          · rw [if_neg c16] at H
            exact absurd H (by simp)
        · rw [if_neg c15] at H
          exact absurd H (by simp)

/-- THE ONE PURE STATEMENT of mapsheetslaw11_SeriesSteps: yours. -/
def mapsheetslaw11_SeriesSteps.Pure : Prop := ∀ (a0 : Int) (a1 : Int), (Lit.int .i64 a0).wf = true → (Lit.int .i64 a1).wf = true → ∃ k, mapsheetslaw11_SeriesSteps.f k a0 a1 = some true
theorem mapsheetslaw11_SeriesSteps.walk (P : mapsheetslaw11_SeriesSteps.Pure) (a0 : Int) (a1 : Int) (w : World) (w0 : (Lit.int .i64 a0).wf = true) (w1 : (Lit.int .i64 a1).wf = true) :
    Calls Try.prog 11 #[.int .i64 a0, .int .i64 a1] w fun e w' => e = .returned (.bool true) ∧ Below w.heap.size w w' := by
  obtain ⟨k, h⟩ := P a0 a1 w0 w1
  refine (mapsheetslaw11_SeriesSteps.calls k a0 a1 true w h).mono ?_
  rintro e w' ⟨rfl, hd⟩
  exact ⟨rfl, hd⟩

end Go.Proofs.Ytaehaehgngafnaa.P
