-- Written by wip/tools/xprint.py (this session's program, over the kit's print.py) for this seat.
import Derived.Test.YtaehaehgngafnaaPx0
import Derived.Test.YtaehaehgngafnaaPx1
import Derived.Test.YtaehaehgngafnaaPx3
import Derived.Test.YtaehaehgngafnaaPx4
import Derived.Test.YtaehaehgngafnaaPx5
namespace Go.Proofs.Ytaehaehgngafnaa.P
open Go.RowKit Go.Proofs.YtaehaehgngafnaaW.PrintWords Go.Proofs.YtaehaehgngafnaaW.PrintLast Go.Proofs.YtaehaehgngafnaaW.PrintMore
attribute [local go_sem] max2_int min2_int max_two min_two max_three min_three max_four min_four   -- for this text's walks alone
set_option linter.unusedVariables false
set_option linter.unusedSimpArgs false

/-! ### mapsheetsref11_Log: function 22 -/
def mapsheetsref11_Log.j0 : Nat → Int → Bool → Option (Int × Int)
  | 0, _, _ => none
  | k + 1, x0, x9 => if x9 = true then (some (0, 2)) else ((mapsheetsref11_fineLog.f k x0).bind fun t210 => ((mapsheetsref11_rounded.f t210 67108864).bind fun t211 => (some (t211, 0))))
def mapsheetsref11_Log.f (k : Nat) (a0 : Int) : Option (Int × Int) := if a0 < 1 then (mapsheetsref11_Log.j0 k a0 true) else (mapsheetsref11_Log.j0 k a0 (decide (a0 > 4611686018427387904)))
theorem mapsheetsref11_Log.mono_l : ∀ k, (∀ y0 y1, LeO (mapsheetsref11_Log.j0 k y0 y1) (mapsheetsref11_Log.j0 (k + 1) y0 y1))
  | 0 => fun _ _ r h => by simp [mapsheetsref11_Log.j0] at h
  | k + 1 => by
    have ih0 := mapsheetsref11_Log.mono_l k
    · intro y0 y1
      unfold mapsheetsref11_Log.j0
      repeat' first
      | (with_reducible exact ih0 _ _)
      | (with_reducible exact mapsheetsref11_fineLog.mono _ _)
      | (with_reducible exact LeO.refl _)
      | (with_reducible exact LeO.none _)
      | (with_reducible refine LeO.ite ?_ ?_)
      | (with_reducible refine LeO.bind ?_ (fun _ => ?_))
      | exact ih0 _ _
      | exact mapsheetsref11_fineLog.mono _ _
      | exact LeO.none _
      | refine LeO.ite ?_ ?_
      | refine LeO.bind ?_ (fun _ => ?_)
theorem mapsheetsref11_Log.mono : ∀ a0 k, LeO (mapsheetsref11_Log.f k a0) (mapsheetsref11_Log.f (k + 1) a0) := by
  intro a0 k
  have ih0 := mapsheetsref11_Log.mono_l k
  unfold mapsheetsref11_Log.f
  repeat' first
      | (with_reducible exact ih0 _ _)
      | (with_reducible exact mapsheetsref11_fineLog.mono _ _)
      | (with_reducible exact LeO.refl _)
      | (with_reducible exact LeO.none _)
      | (with_reducible refine LeO.ite ?_ ?_)
      | (with_reducible refine LeO.bind ?_ (fun _ => ?_))
      | exact ih0 _ _
      | exact mapsheetsref11_fineLog.mono _ _
      | exact LeO.none _
      | refine LeO.ite ?_ ?_
      | refine LeO.bind ?_ (fun _ => ?_)
set_option maxHeartbeats 8000000 in
set_option maxRecDepth 100000 in
theorem mapsheetsref11_Log.calls (k : Nat) (a0 : Int) (r1 : Int) (r2 : Int) (w : World) (h : mapsheetsref11_Log.f k a0 = some (r1, r2)) :
    Calls Try.prog 22 #[.int .i64 a0] w fun e w' => e = .returned (.tuple #[.int .i64 r1, .int .i64 r2]) ∧ Drawn0 w w' := by
  have H : (if a0 < 1 then (mapsheetsref11_Log.j0 k a0 true) else (mapsheetsref11_Log.j0 k a0 (decide (a0 > 4611686018427387904)))) = some (r1, r2) := h
  clear h
  have HC2 := Aside0.mk H
  clear H
  go_enter Try.func22, Try.ntmps22
  go_upto_region 1 with (fail)
  go_cut [9] (fun v9 wc => ∃ (kq : Nat) (x9_1 : Bool), v9 = .bool x9_1 ∧ Aside0 (mapsheetsref11_Log.j0 kq a0 x9_1 = some (r1, r2)) ∧ Aside0 (kq ≤ k) ∧ Drawn0 w wc)
  case first =>
    have H := HC2.out
    clear HC2
    by_cases c3 : a0 < 1
    · rw [if_pos c3] at H
      have c3b0 : decide (a0 < 1) = true := decide_eq_true c3
      clear c3
      (first | rw [c3b0] | (simp only [i64_w, i32_w]; rw [c3b0]) | skip)
      have H' := Aside0.mk H
      clear H
      go_wp2
      go_meet
      case rel => exact ⟨_, (true), (by first | rfl | (simp; done) | (simp [*]; done)), H', ⟨by first | omega | exact Nat.le_refl _⟩, by repeat (first | exact Drawn0.refl _ | apply Drawn0.step)⟩
    · rw [if_neg c3] at H
      have c3b0 : decide (a0 < 1) = false := decide_eq_false c3
      clear c3
      (first | rw [c3b0] | (simp only [i64_w, i32_w]; rw [c3b0]) | skip)
      have H' := Aside0.mk H
      clear H
      go_wp2
      go_meet
      case rel => exact ⟨_, (decide (a0 > 4611686018427387904)), (by first | rfl | (simp; done) | (simp [*]; done)), H', ⟨by first | omega | exact Nat.le_refl _⟩, by repeat (first | exact Drawn0.refl _ | apply Drawn0.step)⟩
  case rest =>
    clear HC2
    try clear c2
    try clear p2
    try clear c3
    try clear c3b0
    obtain ⟨kq, x9_1, rfl, HA, HJ1, ⟨mc1, rfl⟩⟩ := hcut
    cases kq with
    | zero => exact absurd HA.out (by simp [mapsheetsref11_Log.j0])
    | succ kj1 =>
      have H := HA.out
      clear HA
      simp only [mapsheetsref11_Log.j0] at H
      by_cases c4 : x9_1 = true
      · subst c4
        have H1 : (some (0, 2)) = some (r1, r2) := by rw [if_pos rfl] at H; exact H
        clear H
        have H := H1
        clear H1
        simp only [Option.some.injEq, Prod.mk.injEq] at H
        obtain ⟨rfl, rfl⟩ := H
        go_wp2
        go_ret2
        exact ⟨by first | rfl | (simp; done) | (simp [*]; done), by repeat (first | exact Drawn0.refl _ | apply Drawn0.step)⟩
      · replace c4 := Bool.eq_false_iff.mpr c4
        subst c4
        have H1 : ((mapsheetsref11_fineLog.f kj1 a0).bind fun t210 => ((mapsheetsref11_rounded.f t210 67108864).bind fun t211 => (some (t211, 0)))) = some (r1, r2) := by rw [if_neg (show ¬ (false = true) by decide)] at H; exact H
        clear H
        have H := H1
        clear H1
        replace H := Option.bind_eq_some_iff.mp H
        obtain ⟨t210, A50, H⟩ := H
        replace H : ((mapsheetsref11_rounded.f t210 67108864).bind fun t211 => (some (t211, 0))) = some (r1, r2) := H
        have A5 := Aside0.mk A50
        clear A50
        replace H := Option.bind_eq_some_iff.mp H
        obtain ⟨t211, A60, H⟩ := H
        replace H : (some (t211, 0)) = some (r1, r2) := H
        have A6 := Aside0.mk A60
        clear A60
        simp only [Option.some.injEq, Prod.mk.injEq] at H
        obtain ⟨rfl, rfl⟩ := H
        go_wp2_with (first | ((with_reducible refine gate_callee (f := 36) rfl ?_); refine goesL_ (some 11) rfl rfl Try.func36 (by kernel_rfl) rfl #[.int .i64 a0] rfl (by (try simp only [List.map_toArray, List.map_cons, List.map_nil]); first | done | rfl | (simp only [List.length_drop, List.length_take]; rfl)) ?_; (with_reducible refine (mapsheetsref11_fineLog.calls kj1 a0 t210 _ A5.out).mono ?_); rintro e w' ⟨rfl, ⟨nd, rfl⟩⟩; refine ⟨_, rfl, ?_⟩) | ((with_reducible refine gate_callee (f := 28) rfl ?_); refine goesL_ (some 12) rfl rfl Try.func28 (by kernel_rfl) rfl #[.int .i64 t210, .int .i64 67108864] rfl (by (try simp only [List.map_toArray, List.map_cons, List.map_nil]); first | done | rfl | (simp only [List.length_drop, List.length_take]; rfl)) ?_; (with_reducible refine (mapsheetsref11_rounded.calls t210 67108864 t211 _ A6.out).mono ?_); rintro e w' ⟨rfl, ⟨nd, rfl⟩⟩; refine ⟨_, rfl, ?_⟩))
        go_ret2
        exact ⟨by first | rfl | (simp; done) | (simp [*]; done), by repeat (first | exact Drawn0.refl _ | apply Drawn0.step)⟩

/-! ### mapsheetsref11_Artanh: function 24 -/
def mapsheetsref11_Artanh.j0 : Nat → Int → Bool → Option (Int × Int)
  | 0, _, _ => none
  | k + 1, x0, x9 => if x9 = true then (some (0, 2)) else (if x0 < 0 then ((mapsheetsref11_fineLog.f k (wrap64 (1073741824 - x0))).bind fun t212 => ((mapsheetsref11_fineLog.f k (wrap64 (1073741824 + x0))).bind fun t213 => ((mapsheetsref11_rounded.f (wrap64 (t212 - t213)) 134217728).bind fun t214 => (some (wrap64 (-t214), 0))))) else ((mapsheetsref11_fineLog.f k (wrap64 (1073741824 + x0))).bind fun t215 => ((mapsheetsref11_fineLog.f k (wrap64 (1073741824 - x0))).bind fun t216 => ((mapsheetsref11_rounded.f (wrap64 (t215 - t216)) 134217728).bind fun t217 => (some (t217, 0))))))
def mapsheetsref11_Artanh.f (k : Nat) (a0 : Int) : Option (Int × Int) := if a0 < (-1073725440) then (mapsheetsref11_Artanh.j0 k a0 true) else (mapsheetsref11_Artanh.j0 k a0 (decide (a0 > 1073725440)))
theorem mapsheetsref11_Artanh.mono_l : ∀ k, (∀ y0 y1, LeO (mapsheetsref11_Artanh.j0 k y0 y1) (mapsheetsref11_Artanh.j0 (k + 1) y0 y1))
  | 0 => fun _ _ r h => by simp [mapsheetsref11_Artanh.j0] at h
  | k + 1 => by
    have ih0 := mapsheetsref11_Artanh.mono_l k
    · intro y0 y1
      unfold mapsheetsref11_Artanh.j0
      repeat' first
      | (with_reducible exact ih0 _ _)
      | (with_reducible exact mapsheetsref11_fineLog.mono _ _)
      | (with_reducible exact LeO.refl _)
      | (with_reducible exact LeO.none _)
      | (with_reducible refine LeO.ite ?_ ?_)
      | (with_reducible refine LeO.bind ?_ (fun _ => ?_))
      | exact ih0 _ _
      | exact mapsheetsref11_fineLog.mono _ _
      | exact LeO.none _
      | refine LeO.ite ?_ ?_
      | refine LeO.bind ?_ (fun _ => ?_)
theorem mapsheetsref11_Artanh.mono : ∀ a0 k, LeO (mapsheetsref11_Artanh.f k a0) (mapsheetsref11_Artanh.f (k + 1) a0) := by
  intro a0 k
  have ih0 := mapsheetsref11_Artanh.mono_l k
  unfold mapsheetsref11_Artanh.f
  repeat' first
      | (with_reducible exact ih0 _ _)
      | (with_reducible exact mapsheetsref11_fineLog.mono _ _)
      | (with_reducible exact LeO.refl _)
      | (with_reducible exact LeO.none _)
      | (with_reducible refine LeO.ite ?_ ?_)
      | (with_reducible refine LeO.bind ?_ (fun _ => ?_))
      | exact ih0 _ _
      | exact mapsheetsref11_fineLog.mono _ _
      | exact LeO.none _
      | refine LeO.ite ?_ ?_
      | refine LeO.bind ?_ (fun _ => ?_)
set_option maxHeartbeats 8000000 in
set_option maxRecDepth 100000 in
theorem mapsheetsref11_Artanh.calls (k : Nat) (a0 : Int) (r1 : Int) (r2 : Int) (w : World) (h : mapsheetsref11_Artanh.f k a0 = some (r1, r2)) :
    Calls Try.prog 24 #[.int .i64 a0] w fun e w' => e = .returned (.tuple #[.int .i64 r1, .int .i64 r2]) ∧ Drawn0 w w' := by
  have H : (if a0 < (-1073725440) then (mapsheetsref11_Artanh.j0 k a0 true) else (mapsheetsref11_Artanh.j0 k a0 (decide (a0 > 1073725440)))) = some (r1, r2) := h
  clear h
  have HC2 := Aside0.mk H
  clear H
  go_enter Try.func24, Try.ntmps24
  go_upto_region 1 with (fail)
  go_cut [9] (fun v9 wc => ∃ (kq : Nat) (x9_1 : Bool), v9 = .bool x9_1 ∧ Aside0 (mapsheetsref11_Artanh.j0 kq a0 x9_1 = some (r1, r2)) ∧ Aside0 (kq ≤ k) ∧ Drawn0 w wc)
  case first =>
    have H := HC2.out
    clear HC2
    by_cases c3 : a0 < (-1073725440)
    · rw [if_pos c3] at H
      have c3b0 : decide (a0 < (-1073725440)) = true := decide_eq_true c3
      clear c3
      (first | rw [c3b0] | (simp only [i64_w, i32_w]; rw [c3b0]) | skip)
      have H' := Aside0.mk H
      clear H
      go_wp2
      go_meet
      case rel => exact ⟨_, (true), (by first | rfl | (simp; done) | (simp [*]; done)), H', ⟨by first | omega | exact Nat.le_refl _⟩, by repeat (first | exact Drawn0.refl _ | apply Drawn0.step)⟩
    · rw [if_neg c3] at H
      have c3b0 : decide (a0 < (-1073725440)) = false := decide_eq_false c3
      clear c3
      (first | rw [c3b0] | (simp only [i64_w, i32_w]; rw [c3b0]) | skip)
      have H' := Aside0.mk H
      clear H
      go_wp2
      go_meet
      case rel => exact ⟨_, (decide (a0 > 1073725440)), (by first | rfl | (simp; done) | (simp [*]; done)), H', ⟨by first | omega | exact Nat.le_refl _⟩, by repeat (first | exact Drawn0.refl _ | apply Drawn0.step)⟩
  case rest =>
    clear HC2
    try clear c2
    try clear p2
    try clear c3
    try clear c3b0
    obtain ⟨kq, x9_1, rfl, HA, HJ1, ⟨mc1, rfl⟩⟩ := hcut
    cases kq with
    | zero => exact absurd HA.out (by simp [mapsheetsref11_Artanh.j0])
    | succ kj1 =>
      have H := HA.out
      clear HA
      simp only [mapsheetsref11_Artanh.j0] at H
      by_cases c4 : x9_1 = true
      · subst c4
        have H1 : (some (0, 2)) = some (r1, r2) := by rw [if_pos rfl] at H; exact H
        clear H
        have H := H1
        clear H1
        simp only [Option.some.injEq, Prod.mk.injEq] at H
        obtain ⟨rfl, rfl⟩ := H
        go_wp2
        go_ret2
        exact ⟨by first | rfl | (simp; done) | (simp [*]; done), by repeat (first | exact Drawn0.refl _ | apply Drawn0.step)⟩
      · replace c4 := Bool.eq_false_iff.mpr c4
        subst c4
        have H1 : (if a0 < 0 then ((mapsheetsref11_fineLog.f kj1 (wrap64 (1073741824 - a0))).bind fun t212 => ((mapsheetsref11_fineLog.f kj1 (wrap64 (1073741824 + a0))).bind fun t213 => ((mapsheetsref11_rounded.f (wrap64 (t212 - t213)) 134217728).bind fun t214 => (some (wrap64 (-t214), 0))))) else ((mapsheetsref11_fineLog.f kj1 (wrap64 (1073741824 + a0))).bind fun t215 => ((mapsheetsref11_fineLog.f kj1 (wrap64 (1073741824 - a0))).bind fun t216 => ((mapsheetsref11_rounded.f (wrap64 (t215 - t216)) 134217728).bind fun t217 => (some (t217, 0)))))) = some (r1, r2) := by rw [if_neg (show ¬ (false = true) by decide)] at H; exact H
        clear H
        have H := H1
        clear H1
        by_cases c5 : a0 < 0
        · rw [if_pos c5] at H
          have c5b0 : decide (a0 < 0) = true := decide_eq_true c5
          clear c5
          replace H := Option.bind_eq_some_iff.mp H
          obtain ⟨t212, A60, H⟩ := H
          replace H : ((mapsheetsref11_fineLog.f kj1 (wrap64 (1073741824 + a0))).bind fun t213 => ((mapsheetsref11_rounded.f (wrap64 (t212 - t213)) 134217728).bind fun t214 => (some (wrap64 (-t214), 0)))) = some (r1, r2) := H
          have A6 := Aside0.mk A60
          clear A60
          replace H := Option.bind_eq_some_iff.mp H
          obtain ⟨t213, A70, H⟩ := H
          replace H : ((mapsheetsref11_rounded.f (wrap64 (t212 - t213)) 134217728).bind fun t214 => (some (wrap64 (-t214), 0))) = some (r1, r2) := H
          have A7 := Aside0.mk A70
          clear A70
          replace H := Option.bind_eq_some_iff.mp H
          obtain ⟨t214, A80, H⟩ := H
          replace H : (some (wrap64 (-t214), 0)) = some (r1, r2) := H
          have A8 := Aside0.mk A80
          clear A80
          simp only [Option.some.injEq, Prod.mk.injEq] at H
          obtain ⟨rfl, rfl⟩ := H
          go_wp2_with (first | ((with_reducible refine gate_callee (f := 36) rfl ?_); refine goesL_ (some 14) rfl rfl Try.func36 (by kernel_rfl) rfl #[.int .i64 (wrap64 (1073741824 - a0))] rfl (by (try simp only [List.map_toArray, List.map_cons, List.map_nil]); first | done | rfl | (simp only [List.length_drop, List.length_take]; rfl)) ?_; (with_reducible refine (mapsheetsref11_fineLog.calls kj1 (wrap64 (1073741824 - a0)) t212 _ A6.out).mono ?_); rintro e w' ⟨rfl, ⟨nd, rfl⟩⟩; refine ⟨_, rfl, ?_⟩) | ((with_reducible refine gate_callee (f := 36) rfl ?_); refine goesL_ (some 17) rfl rfl Try.func36 (by kernel_rfl) rfl #[.int .i64 (wrap64 (1073741824 + a0))] rfl (by (try simp only [List.map_toArray, List.map_cons, List.map_nil]); first | done | rfl | (simp only [List.length_drop, List.length_take]; rfl)) ?_; (with_reducible refine (mapsheetsref11_fineLog.calls kj1 (wrap64 (1073741824 + a0)) t213 _ A7.out).mono ?_); rintro e w' ⟨rfl, ⟨nd, rfl⟩⟩; refine ⟨_, rfl, ?_⟩) | ((with_reducible refine gate_callee (f := 28) rfl ?_); refine goesL_ (some 19) rfl rfl Try.func28 (by kernel_rfl) rfl #[.int .i64 (wrap64 (t212 - t213)), .int .i64 134217728] rfl (by (try simp only [List.map_toArray, List.map_cons, List.map_nil]); first | done | rfl | (simp only [List.length_drop, List.length_take]; rfl)) ?_; (with_reducible refine (mapsheetsref11_rounded.calls (wrap64 (t212 - t213)) 134217728 t214 _ A8.out).mono ?_); rintro e w' ⟨rfl, ⟨nd, rfl⟩⟩; refine ⟨_, rfl, ?_⟩))
          go_ret2
          exact ⟨by first | rfl | (simp; done) | (simp [*]; done), by repeat (first | exact Drawn0.refl _ | apply Drawn0.step)⟩
        · rw [if_neg c5] at H
          have c5b0 : decide (a0 < 0) = false := decide_eq_false c5
          clear c5
          replace H := Option.bind_eq_some_iff.mp H
          obtain ⟨t215, A90, H⟩ := H
          replace H : ((mapsheetsref11_fineLog.f kj1 (wrap64 (1073741824 - a0))).bind fun t216 => ((mapsheetsref11_rounded.f (wrap64 (t215 - t216)) 134217728).bind fun t217 => (some (t217, 0)))) = some (r1, r2) := H
          have A9 := Aside0.mk A90
          clear A90
          replace H := Option.bind_eq_some_iff.mp H
          obtain ⟨t216, A100, H⟩ := H
          replace H : ((mapsheetsref11_rounded.f (wrap64 (t215 - t216)) 134217728).bind fun t217 => (some (t217, 0))) = some (r1, r2) := H
          have A10 := Aside0.mk A100
          clear A100
          replace H := Option.bind_eq_some_iff.mp H
          obtain ⟨t217, A110, H⟩ := H
          replace H : (some (t217, 0)) = some (r1, r2) := H
          have A11 := Aside0.mk A110
          clear A110
          simp only [Option.some.injEq, Prod.mk.injEq] at H
          obtain ⟨rfl, rfl⟩ := H
          go_wp2_with (first | ((with_reducible refine gate_callee (f := 36) rfl ?_); refine goesL_ (some 23) rfl rfl Try.func36 (by kernel_rfl) rfl #[.int .i64 (wrap64 (1073741824 + a0))] rfl (by (try simp only [List.map_toArray, List.map_cons, List.map_nil]); first | done | rfl | (simp only [List.length_drop, List.length_take]; rfl)) ?_; (with_reducible refine (mapsheetsref11_fineLog.calls kj1 (wrap64 (1073741824 + a0)) t215 _ A9.out).mono ?_); rintro e w' ⟨rfl, ⟨nd, rfl⟩⟩; refine ⟨_, rfl, ?_⟩) | ((with_reducible refine gate_callee (f := 36) rfl ?_); refine goesL_ (some 26) rfl rfl Try.func36 (by kernel_rfl) rfl #[.int .i64 (wrap64 (1073741824 - a0))] rfl (by (try simp only [List.map_toArray, List.map_cons, List.map_nil]); first | done | rfl | (simp only [List.length_drop, List.length_take]; rfl)) ?_; (with_reducible refine (mapsheetsref11_fineLog.calls kj1 (wrap64 (1073741824 - a0)) t216 _ A10.out).mono ?_); rintro e w' ⟨rfl, ⟨nd, rfl⟩⟩; refine ⟨_, rfl, ?_⟩) | ((with_reducible refine gate_callee (f := 28) rfl ?_); refine goesL_ (some 28) rfl rfl Try.func28 (by kernel_rfl) rfl #[.int .i64 (wrap64 (t215 - t216)), .int .i64 134217728] rfl (by (try simp only [List.map_toArray, List.map_cons, List.map_nil]); first | done | rfl | (simp only [List.length_drop, List.length_take]; rfl)) ?_; (with_reducible refine (mapsheetsref11_rounded.calls (wrap64 (t215 - t216)) 134217728 t217 _ A11.out).mono ?_); rintro e w' ⟨rfl, ⟨nd, rfl⟩⟩; refine ⟨_, rfl, ?_⟩))
          go_ret2
          exact ⟨by first | rfl | (simp; done) | (simp [*]; done), by repeat (first | exact Drawn0.refl _ | apply Drawn0.step)⟩

/-! ### mapsheetslaw11_SeriesLogs: function 5 -/
def mapsheetslaw11_SeriesLogs.f (k : Nat) (a0 : Int) (a1 : Int) : Option (Bool) := (series_Log.f k a0).bind fun bt218 => ((mapsheetsref11_Log.f k a0).bind fun bt220 => ((series_Artanh.f k a1).bind fun bt222 => ((mapsheetsref11_Artanh.f k a1).bind fun bt224 => (if bt218.1 = bt220.1 then (if bt218.2 = bt220.2 then (if bt222.1 = bt224.1 then (if bt222.2 = bt224.2 then ((mapsheetslaw11_awake.f k).bind fun t226 => (some t226)) else (none)) else (none)) else (none)) else (none)))))
theorem mapsheetslaw11_SeriesLogs.mono : ∀ a0 a1 k, LeO (mapsheetslaw11_SeriesLogs.f k a0 a1) (mapsheetslaw11_SeriesLogs.f (k + 1) a0 a1) := by
  intro a0 a1 k
  unfold mapsheetslaw11_SeriesLogs.f
  repeat' first
      | (with_reducible exact mapsheetslaw11_awake.mono _)
      | (with_reducible exact mapsheetsref11_Artanh.mono _ _)
      | (with_reducible exact mapsheetsref11_Log.mono _ _)
      | (with_reducible exact series_Artanh.mono _ _)
      | (with_reducible exact series_Log.mono _ _)
      | (with_reducible exact LeO.refl _)
      | (with_reducible exact LeO.none _)
      | (with_reducible refine LeO.ite ?_ ?_)
      | (with_reducible refine LeO.bind ?_ (fun _ => ?_))
      | exact mapsheetslaw11_awake.mono _
      | exact mapsheetsref11_Artanh.mono _ _
      | exact mapsheetsref11_Log.mono _ _
      | exact series_Artanh.mono _ _
      | exact series_Log.mono _ _
      | exact LeO.none _
      | refine LeO.ite ?_ ?_
      | refine LeO.bind ?_ (fun _ => ?_)
set_option maxHeartbeats 8000000 in
set_option maxRecDepth 100000 in
theorem mapsheetslaw11_SeriesLogs.calls (k : Nat) (a0 : Int) (a1 : Int) (r : Bool) (w : World) (h : mapsheetslaw11_SeriesLogs.f k a0 a1 = some r) :
    Calls Try.prog 5 #[.int .i64 a0, .int .i64 a1] w fun e w' => e = .returned (.bool r) ∧ Below w.heap.size w w' := by
  have HB := Aside0.mk (Below.refl w.heap.size w)
  have H : ((series_Log.f k a0).bind fun bt218 => ((mapsheetsref11_Log.f k a0).bind fun bt220 => ((series_Artanh.f k a1).bind fun bt222 => ((mapsheetsref11_Artanh.f k a1).bind fun bt224 => (if bt218.1 = bt220.1 then (if bt218.2 = bt220.2 then (if bt222.1 = bt224.1 then (if bt222.2 = bt224.2 then ((mapsheetslaw11_awake.f k).bind fun t226 => (some t226)) else (none)) else (none)) else (none)) else (none)))))) = some r := h
  clear h
  replace H := Option.bind_eq_some_iff.mp H
  obtain ⟨⟨t218, t219⟩, A30, H⟩ := H
  replace H : ((mapsheetsref11_Log.f k a0).bind fun bt220 => ((series_Artanh.f k a1).bind fun bt222 => ((mapsheetsref11_Artanh.f k a1).bind fun bt224 => (if t218 = bt220.1 then (if t219 = bt220.2 then (if bt222.1 = bt224.1 then (if bt222.2 = bt224.2 then ((mapsheetslaw11_awake.f k).bind fun t226 => (some t226)) else (none)) else (none)) else (none)) else (none))))) = some r := H
  have A3 := Aside0.mk A30
  clear A30
  replace H := Option.bind_eq_some_iff.mp H
  obtain ⟨⟨t220, t221⟩, A40, H⟩ := H
  replace H : ((series_Artanh.f k a1).bind fun bt222 => ((mapsheetsref11_Artanh.f k a1).bind fun bt224 => (if t218 = t220 then (if t219 = t221 then (if bt222.1 = bt224.1 then (if bt222.2 = bt224.2 then ((mapsheetslaw11_awake.f k).bind fun t226 => (some t226)) else (none)) else (none)) else (none)) else (none)))) = some r := H
  have A4 := Aside0.mk A40
  clear A40
  replace H := Option.bind_eq_some_iff.mp H
  obtain ⟨⟨t222, t223⟩, A50, H⟩ := H
  replace H : ((mapsheetsref11_Artanh.f k a1).bind fun bt224 => (if t218 = t220 then (if t219 = t221 then (if t222 = bt224.1 then (if t223 = bt224.2 then ((mapsheetslaw11_awake.f k).bind fun t226 => (some t226)) else (none)) else (none)) else (none)) else (none))) = some r := H
  have A5 := Aside0.mk A50
  clear A50
  replace H := Option.bind_eq_some_iff.mp H
  obtain ⟨⟨t224, t225⟩, A60, H⟩ := H
  replace H : (if t218 = t220 then (if t219 = t221 then (if t222 = t224 then (if t223 = t225 then ((mapsheetslaw11_awake.f k).bind fun t226 => (some t226)) else (none)) else (none)) else (none)) else (none)) = some r := H
  have A6 := Aside0.mk A60
  clear A60
  by_cases c7 : t218 = t220
  · rw [if_pos c7] at H
    have c7b0 : (t218 == t220) = true := beq_iff_eq.mpr c7
    have c7b1 : (t218 != t220) = false := bne_eq_false_iff_eq.mpr c7
    clear c7
    by_cases c8 : t219 = t221
    · rw [if_pos c8] at H
      have c8b0 : (t219 == t221) = true := beq_iff_eq.mpr c8
      have c8b1 : (t219 != t221) = false := bne_eq_false_iff_eq.mpr c8
      clear c8
      by_cases c9 : t222 = t224
      · rw [if_pos c9] at H
        have c9b0 : (t222 == t224) = true := beq_iff_eq.mpr c9
        have c9b1 : (t222 != t224) = false := bne_eq_false_iff_eq.mpr c9
        clear c9
        by_cases c10 : t223 = t225
        · rw [if_pos c10] at H
          have c10b0 : (t223 == t225) = true := beq_iff_eq.mpr c10
          have c10b1 : (t223 != t225) = false := bne_eq_false_iff_eq.mpr c10
          clear c10
          replace H := Option.bind_eq_some_iff.mp H
          obtain ⟨t226, A110, H⟩ := H
          replace H : (some t226) = some r := H
          have A11 := Aside0.mk A110
          clear A110
          obtain rfl := Option.some.inj H
          go_enter Try.func5, Try.ntmps5
          go_wp2_with (first | ((with_reducible refine gate_callee (f := 21) rfl ?_); refine goesL_ (some 15) rfl rfl Try.func21 (by kernel_rfl) rfl #[.int .i64 a0] rfl (by (try simp only [List.map_toArray, List.map_cons, List.map_nil]); first | done | rfl | (simp only [List.length_drop, List.length_take]; rfl)) ?_; (with_reducible refine (series_Log.calls k a0 t218 t219 _ A3.out).mono ?_); rintro e w' ⟨rfl, ⟨nd, rfl⟩⟩; refine ⟨_, rfl, ?_⟩) | ((with_reducible refine gate_callee (f := 22) rfl ?_); refine goesL_ (some 20) rfl rfl Try.func22 (by kernel_rfl) rfl #[.int .i64 a0] rfl (by (try simp only [List.map_toArray, List.map_cons, List.map_nil]); first | done | rfl | (simp only [List.length_drop, List.length_take]; rfl)) ?_; (with_reducible refine (mapsheetsref11_Log.calls k a0 t220 t221 _ A4.out).mono ?_); rintro e w' ⟨rfl, ⟨nd, rfl⟩⟩; refine ⟨_, rfl, ?_⟩) | ((with_reducible refine gate_callee (f := 23) rfl ?_); refine goesL_ (some 25) rfl rfl Try.func23 (by kernel_rfl) rfl #[.int .i64 a1] rfl (by (try simp only [List.map_toArray, List.map_cons, List.map_nil]); first | done | rfl | (simp only [List.length_drop, List.length_take]; rfl)) ?_; (with_reducible refine (series_Artanh.calls k a1 t222 t223 _ A5.out).mono ?_); rintro e w' ⟨rfl, ⟨nd, rfl⟩⟩; refine ⟨_, rfl, ?_⟩) | ((with_reducible refine gate_callee (f := 24) rfl ?_); refine goesL_ (some 30) rfl rfl Try.func24 (by kernel_rfl) rfl #[.int .i64 a1] rfl (by (try simp only [List.map_toArray, List.map_cons, List.map_nil]); first | done | rfl | (simp only [List.length_drop, List.length_take]; rfl)) ?_; (with_reducible refine (mapsheetsref11_Artanh.calls k a1 t224 t225 _ A6.out).mono ?_); rintro e w' ⟨rfl, ⟨nd, rfl⟩⟩; refine ⟨_, rfl, ?_⟩) | (go_at_call 18; (with_reducible refine (mapsheetslaw11_awake.calls k  t226 _ A11.out).mono ?_); rintro e w12 ⟨rfl, hb⟩; have n0_ := Aside0.mk (below_step (by repeat (first | (with_reducible first | exact HB.out | apply below_alloc | apply pw_below_drewN | apply below_drew1) | exact HB.out)) hb); clear HB; have HB := n0_; clear n0_; (try clear hb); (try clear hb2); (try clear hk); (try clear hi)))
          go_ret
          exact ⟨by first | rfl | (simp [errW_none, errW_some] <;> rfl) | (simp [*, errW_none, errW_some] <;> rfl), by repeat (first | (with_reducible first | exact HB.out | apply below_alloc | apply pw_below_drewN | apply below_drew1) | exact HB.out)⟩
        · rw [if_neg c10] at H
          exact absurd H (by simp)
      · rw [if_neg c9] at H
        exact absurd H (by simp)
    · rw [if_neg c8] at H
      exact absurd H (by simp)
  · rw [if_neg c7] at H
    exact absurd H (by simp)

/-- THE ONE PURE STATEMENT of mapsheetslaw11_SeriesLogs: yours. -/
def mapsheetslaw11_SeriesLogs.Pure : Prop := ∀ (a0 : Int) (a1 : Int), (Lit.int .i64 a0).wf = true → (Lit.int .i64 a1).wf = true → ∃ k, mapsheetslaw11_SeriesLogs.f k a0 a1 = some true
theorem mapsheetslaw11_SeriesLogs.walk (P : mapsheetslaw11_SeriesLogs.Pure) (a0 : Int) (a1 : Int) (w : World) (w0 : (Lit.int .i64 a0).wf = true) (w1 : (Lit.int .i64 a1).wf = true) :
    Calls Try.prog 5 #[.int .i64 a0, .int .i64 a1] w fun e w' => e = .returned (.bool true) ∧ Below w.heap.size w w' := by
  obtain ⟨k, h⟩ := P a0 a1 w0 w1
  refine (mapsheetslaw11_SeriesLogs.calls k a0 a1 true w h).mono ?_
  rintro e w' ⟨rfl, hd⟩
  exact ⟨rfl, hd⟩

/-! ### mapsheetslaw11_SeriesCircle: function 6 -/
mutual
def mapsheetslaw11_SeriesCircle.j0 : Nat → Int → Bool → Option (Bool)
  | 0, _, _ => none
  | k + 1, x0, x11 => if x11 = true then ((mapsheetslaw11_awake.f k).bind fun t227 => (some t227)) else ((series_Sin.f k x0).bind fun t228 => ((series_Cos.f k x0).bind fun t229 => (if t228 < (-1073741824) then (mapsheetslaw11_SeriesCircle.j1 k x0 t228 t229 true) else (if t228 > 1073741824 then (mapsheetslaw11_SeriesCircle.j1 k x0 t228 t229 true) else (if t229 < (-1073741824) then (mapsheetslaw11_SeriesCircle.j1 k x0 t228 t229 true) else (mapsheetslaw11_SeriesCircle.j1 k x0 t228 t229 (decide (t229 > 1073741824))))))))
def mapsheetslaw11_SeriesCircle.j1 : Nat → Int → Int → Int → Bool → Option (Bool)
  | 0, _, _, _, _ => none
  | k + 1, x0, x3, x4, x30 => if x30 = true then (none) else (if (wrap64 ((wrap64 ((wrap64 (x3 * x3)) + (wrap64 (x4 * x4)))) - 1152921504606846976)) ≥ (-2147483648) then (if (wrap64 ((wrap64 ((wrap64 (x3 * x3)) + (wrap64 (x4 * x4)))) - 1152921504606846976)) ≤ 2147483648 then ((series_Sin.f k (wrap64 (-x0))).bind fun t230 => (if t230 = (wrap64 (-x3)) then ((series_Cos.f k (wrap64 (-x0))).bind fun t231 => (if t231 = x4 then ((series_Sin.f k (wrap64 (x0 + 1296000))).bind fun t232 => (if t232 = x3 then ((series_Cos.f k (wrap64 (x0 - 1296000))).bind fun t233 => (if t233 = x4 then ((mapsheetslaw11_awake.f k).bind fun t234 => (some t234)) else (none))) else (none))) else (none))) else (none))) else (none)) else (none))
end
def mapsheetslaw11_SeriesCircle.f (k : Nat) (a0 : Int) : Option (Bool) := if a0 < (-1099511627776) then (mapsheetslaw11_SeriesCircle.j0 k a0 true) else (mapsheetslaw11_SeriesCircle.j0 k a0 (decide (a0 > 1099511627776)))
theorem mapsheetslaw11_SeriesCircle.mono_l : ∀ k, (∀ y0 y1, LeO (mapsheetslaw11_SeriesCircle.j0 k y0 y1) (mapsheetslaw11_SeriesCircle.j0 (k + 1) y0 y1)) ∧ (∀ y0 y1 y2 y3, LeO (mapsheetslaw11_SeriesCircle.j1 k y0 y1 y2 y3) (mapsheetslaw11_SeriesCircle.j1 (k + 1) y0 y1 y2 y3))
  | 0 => ⟨fun _ _ r h => by simp [mapsheetslaw11_SeriesCircle.j0] at h, fun _ _ _ _ r h => by simp [mapsheetslaw11_SeriesCircle.j1] at h⟩
  | k + 1 => by
    obtain ⟨ih0, ih1⟩ := mapsheetslaw11_SeriesCircle.mono_l k
    refine ⟨?_, ?_⟩
    · intro y0 y1
      unfold mapsheetslaw11_SeriesCircle.j0
      repeat' first
      | (with_reducible exact ih0 _ _)
      | (with_reducible exact ih1 _ _ _ _)
      | (with_reducible exact mapsheetslaw11_awake.mono _)
      | (with_reducible exact series_Cos.mono _ _)
      | (with_reducible exact series_Sin.mono _ _)
      | (with_reducible exact LeO.refl _)
      | (with_reducible exact LeO.none _)
      | (with_reducible refine LeO.ite ?_ ?_)
      | (with_reducible refine LeO.bind ?_ (fun _ => ?_))
      | exact ih0 _ _
      | exact ih1 _ _ _ _
      | exact mapsheetslaw11_awake.mono _
      | exact series_Cos.mono _ _
      | exact series_Sin.mono _ _
      | exact LeO.none _
      | refine LeO.ite ?_ ?_
      | refine LeO.bind ?_ (fun _ => ?_)
    · intro y0 y1 y2 y3
      unfold mapsheetslaw11_SeriesCircle.j1
      repeat' first
      | (with_reducible exact ih0 _ _)
      | (with_reducible exact ih1 _ _ _ _)
      | (with_reducible exact mapsheetslaw11_awake.mono _)
      | (with_reducible exact series_Cos.mono _ _)
      | (with_reducible exact series_Sin.mono _ _)
      | (with_reducible exact LeO.refl _)
      | (with_reducible exact LeO.none _)
      | (with_reducible refine LeO.ite ?_ ?_)
      | (with_reducible refine LeO.bind ?_ (fun _ => ?_))
      | exact ih0 _ _
      | exact ih1 _ _ _ _
      | exact mapsheetslaw11_awake.mono _
      | exact series_Cos.mono _ _
      | exact series_Sin.mono _ _
      | exact LeO.none _
      | refine LeO.ite ?_ ?_
      | refine LeO.bind ?_ (fun _ => ?_)
theorem mapsheetslaw11_SeriesCircle.mono : ∀ a0 k, LeO (mapsheetslaw11_SeriesCircle.f k a0) (mapsheetslaw11_SeriesCircle.f (k + 1) a0) := by
  intro a0 k
  obtain ⟨ih0, ih1⟩ := mapsheetslaw11_SeriesCircle.mono_l k
  unfold mapsheetslaw11_SeriesCircle.f
  repeat' first
      | (with_reducible exact ih0 _ _)
      | (with_reducible exact ih1 _ _ _ _)
      | (with_reducible exact mapsheetslaw11_awake.mono _)
      | (with_reducible exact series_Cos.mono _ _)
      | (with_reducible exact series_Sin.mono _ _)
      | (with_reducible exact LeO.refl _)
      | (with_reducible exact LeO.none _)
      | (with_reducible refine LeO.ite ?_ ?_)
      | (with_reducible refine LeO.bind ?_ (fun _ => ?_))
      | exact ih0 _ _
      | exact ih1 _ _ _ _
      | exact mapsheetslaw11_awake.mono _
      | exact series_Cos.mono _ _
      | exact series_Sin.mono _ _
      | exact LeO.none _
      | refine LeO.ite ?_ ?_
      | refine LeO.bind ?_ (fun _ => ?_)
set_option maxHeartbeats 8000000 in
set_option maxRecDepth 100000 in
theorem mapsheetslaw11_SeriesCircle.calls (k : Nat) (a0 : Int) (r : Bool) (w : World) (h : mapsheetslaw11_SeriesCircle.f k a0 = some r) :
    Calls Try.prog 6 #[.int .i64 a0] w fun e w' => e = .returned (.bool r) ∧ Below w.heap.size w w' := by
  have HB := Aside0.mk (Below.refl w.heap.size w)
  have H : (if a0 < (-1099511627776) then (mapsheetslaw11_SeriesCircle.j0 k a0 true) else (mapsheetslaw11_SeriesCircle.j0 k a0 (decide (a0 > 1099511627776)))) = some r := h
  clear h
  have HC2 := Aside0.mk H
  clear H
  go_enter Try.func6, Try.ntmps6
  go_upto_region 1 with (fail)
  go_cut [11] (fun v11 wc => ∃ (kq : Nat) (x11_1 : Bool), v11 = .bool x11_1 ∧ Aside0 (mapsheetslaw11_SeriesCircle.j0 kq a0 x11_1 = some r) ∧ Aside0 (kq ≤ k) ∧ Aside0 (Below w.heap.size w wc))
  case first =>
    have H := HC2.out
    clear HC2
    by_cases c3 : a0 < (-1099511627776)
    · rw [if_pos c3] at H
      have c3b0 : decide (a0 < (-1099511627776)) = true := decide_eq_true c3
      clear c3
      (first | rw [c3b0] | (simp only [i64_w, i32_w]; rw [c3b0]) | skip)
      have H' := Aside0.mk H
      clear H
      go_wp2
      go_meet
      case rel => exact ⟨_, (true), (by first | rfl | (simp; done) | (simp [*]; done)), H', ⟨by first | omega | exact Nat.le_refl _⟩, ⟨by repeat (first | (with_reducible first | exact HB.out | apply below_alloc | apply pw_below_drewN | apply below_drew1) | exact HB.out)⟩⟩
    · rw [if_neg c3] at H
      have c3b0 : decide (a0 < (-1099511627776)) = false := decide_eq_false c3
      clear c3
      (first | rw [c3b0] | (simp only [i64_w, i32_w]; rw [c3b0]) | skip)
      have H' := Aside0.mk H
      clear H
      go_wp2
      go_meet
      case rel => exact ⟨_, (decide (a0 > 1099511627776)), (by first | rfl | (simp; done) | (simp [*]; done)), H', ⟨by first | omega | exact Nat.le_refl _⟩, ⟨by repeat (first | (with_reducible first | exact HB.out | apply below_alloc | apply pw_below_drewN | apply below_drew1) | exact HB.out)⟩⟩
  case rest =>
    clear HC2
    try clear p2
    try clear c3
    try clear c3b0
    obtain ⟨kq, x11_1, rfl, HA, HJ1, HB⟩ := hcut
    cases kq with
    | zero => exact absurd HA.out (by simp [mapsheetslaw11_SeriesCircle.j0])
    | succ kj1 =>
      have H := HA.out
      clear HA
      simp only [mapsheetslaw11_SeriesCircle.j0] at H
      by_cases c4 : x11_1 = true
      · subst c4
        have H1 : ((mapsheetslaw11_awake.f kj1).bind fun t227 => (some t227)) = some r := by rw [if_pos rfl] at H; exact H
        clear H
        have H := H1
        clear H1
        replace H := Option.bind_eq_some_iff.mp H
        obtain ⟨t227, A50, H⟩ := H
        replace H : (some t227) = some r := H
        have A5 := Aside0.mk A50
        clear A50
        obtain rfl := Option.some.inj H
        go_wp2_with (first | ((with_reducible refine gate_callee (f := 18) rfl ?_); refine goesL_ (some 12) rfl rfl Try.func18 (by kernel_rfl) rfl #[] rfl (by (try simp only [List.map_toArray, List.map_cons, List.map_nil]); first | done | rfl | (simp only [List.length_drop, List.length_take]; rfl)) ?_; (with_reducible refine (mapsheetslaw11_awake.calls kj1  t227 _ A5.out).mono ?_); rintro e w6 ⟨rfl, hb⟩; refine ⟨_, rfl, ?_⟩; have n0_ := Aside0.mk (below_step (by repeat (first | (with_reducible first | exact HB.out | apply below_alloc | apply pw_below_drewN | apply below_drew1) | exact HB.out)) hb); clear HB; have HB := n0_; clear n0_; (try clear hb); (try clear hb2); (try clear hk); (try clear hi)))
        go_ret
        exact ⟨by first | rfl | (simp [errW_none, errW_some] <;> rfl) | (simp [*, errW_none, errW_some] <;> rfl), by repeat (first | (with_reducible first | exact HB.out | apply below_alloc | apply pw_below_drewN | apply below_drew1) | exact HB.out)⟩
      · replace c4 := Bool.eq_false_iff.mpr c4
        subst c4
        have H1 : ((series_Sin.f kj1 a0).bind fun t228 => ((series_Cos.f kj1 a0).bind fun t229 => (if t228 < (-1073741824) then (mapsheetslaw11_SeriesCircle.j1 kj1 a0 t228 t229 true) else (if t228 > 1073741824 then (mapsheetslaw11_SeriesCircle.j1 kj1 a0 t228 t229 true) else (if t229 < (-1073741824) then (mapsheetslaw11_SeriesCircle.j1 kj1 a0 t228 t229 true) else (mapsheetslaw11_SeriesCircle.j1 kj1 a0 t228 t229 (decide (t229 > 1073741824)))))))) = some r := by rw [if_neg (show ¬ (false = true) by decide)] at H; exact H
        clear H
        have H := H1
        clear H1
        replace H := Option.bind_eq_some_iff.mp H
        obtain ⟨t228, A70, H⟩ := H
        replace H : ((series_Cos.f kj1 a0).bind fun t229 => (if t228 < (-1073741824) then (mapsheetslaw11_SeriesCircle.j1 kj1 a0 t228 t229 true) else (if t228 > 1073741824 then (mapsheetslaw11_SeriesCircle.j1 kj1 a0 t228 t229 true) else (if t229 < (-1073741824) then (mapsheetslaw11_SeriesCircle.j1 kj1 a0 t228 t229 true) else (mapsheetslaw11_SeriesCircle.j1 kj1 a0 t228 t229 (decide (t229 > 1073741824))))))) = some r := H
        have A7 := Aside0.mk A70
        clear A70
        replace H := Option.bind_eq_some_iff.mp H
        obtain ⟨t229, A80, H⟩ := H
        replace H : (if t228 < (-1073741824) then (mapsheetslaw11_SeriesCircle.j1 kj1 a0 t228 t229 true) else (if t228 > 1073741824 then (mapsheetslaw11_SeriesCircle.j1 kj1 a0 t228 t229 true) else (if t229 < (-1073741824) then (mapsheetslaw11_SeriesCircle.j1 kj1 a0 t228 t229 true) else (mapsheetslaw11_SeriesCircle.j1 kj1 a0 t228 t229 (decide (t229 > 1073741824)))))) = some r := H
        have A8 := Aside0.mk A80
        clear A80
        have HC9 := Aside0.mk H
        clear H
        go_upto_region 4 with (first | ((with_reducible refine gate_callee (f := 14) rfl ?_); refine goesL_ (some 14) rfl rfl Try.func14 (by kernel_rfl) rfl #[.int .i64 a0] rfl (by (try simp only [List.map_toArray, List.map_cons, List.map_nil]); first | done | rfl | (simp only [List.length_drop, List.length_take]; rfl)) ?_; (with_reducible refine (series_Sin.calls kj1 a0 t228 _ A7.out).mono ?_); rintro e w10 ⟨rfl, hb⟩; refine ⟨_, rfl, ?_⟩; have n0_ := Aside0.mk (below_step (by repeat (first | (with_reducible first | exact HB.out | apply below_alloc | apply pw_below_drewN | apply below_drew1) | exact HB.out)) hb); clear HB; have HB := n0_; clear n0_; (try clear hb); (try clear hb2); (try clear hk); (try clear hi)) | ((with_reducible refine gate_callee (f := 16) rfl ?_); refine goesL_ (some 16) rfl rfl Try.func16 (by kernel_rfl) rfl #[.int .i64 a0] rfl (by (try simp only [List.map_toArray, List.map_cons, List.map_nil]); first | done | rfl | (simp only [List.length_drop, List.length_take]; rfl)) ?_; (with_reducible refine (series_Cos.calls kj1 a0 t229 _ A8.out).mono ?_); rintro e w11 ⟨rfl, hb⟩; refine ⟨_, rfl, ?_⟩; have n0_ := Aside0.mk (below_step (by repeat (first | (with_reducible first | exact HB.out | apply below_alloc | apply pw_below_drewN | apply below_drew1) | exact HB.out)) hb); clear HB; have HB := n0_; clear n0_; (try clear hb); (try clear hb2); (try clear hk); (try clear hi)))
        (try simp only [Act.put, List.setIfInBounds_toArray, List.set_cons_zero, List.set_cons_succ])
        go_cut [30] (fun v30 wc => ∃ (kq : Nat) (x30_8 : Bool), v30 = .bool x30_8 ∧ Aside0 (mapsheetslaw11_SeriesCircle.j1 kq a0 t228 t229 x30_8 = some r) ∧ Aside0 (kq ≤ kj1) ∧ Aside0 (Below w.heap.size w wc))
        case first =>
          have H := HC9.out
          clear HC9
          by_cases c12 : t228 < (-1073741824)
          · rw [if_pos c12] at H
            have c12b0 : decide (t228 < (-1073741824)) = true := decide_eq_true c12
            clear c12
            (first | rw [c12b0] | (simp only [i64_w, i32_w]; rw [c12b0]) | skip)
            have H' := Aside0.mk H
            clear H
            go_wp2
            go_meet
            case rel => exact ⟨_, (true), (by first | rfl | (simp; done) | (simp [*]; done)), H', ⟨by have := HJ1.out; first | omega | exact Nat.le_refl _⟩, ⟨by repeat (first | (with_reducible first | exact HB.out | apply below_alloc | apply pw_below_drewN | apply below_drew1) | exact HB.out)⟩⟩
          · rw [if_neg c12] at H
            have c12b0 : decide (t228 < (-1073741824)) = false := decide_eq_false c12
            clear c12
            (first | rw [c12b0] | (simp only [i64_w, i32_w]; rw [c12b0]) | skip)
            by_cases c13 : t228 > 1073741824
            · rw [if_pos c13] at H
              have c13b0 : decide (1073741824 < t228) = true := decide_eq_true c13
              clear c13
              have H' := Aside0.mk H
              clear H
              go_wp2
              go_meet
              case rel => exact ⟨_, (true), (by first | rfl | (simp; done) | (simp [*]; done)), H', ⟨by have := HJ1.out; first | omega | exact Nat.le_refl _⟩, ⟨by repeat (first | (with_reducible first | exact HB.out | apply below_alloc | apply pw_below_drewN | apply below_drew1) | exact HB.out)⟩⟩
            · rw [if_neg c13] at H
              have c13b0 : decide (1073741824 < t228) = false := decide_eq_false c13
              clear c13
              by_cases c14 : t229 < (-1073741824)
              · rw [if_pos c14] at H
                have c14b0 : decide (t229 < (-1073741824)) = true := decide_eq_true c14
                clear c14
                have H' := Aside0.mk H
                clear H
                go_wp2
                go_meet
                case rel => exact ⟨_, (true), (by first | rfl | (simp; done) | (simp [*]; done)), H', ⟨by have := HJ1.out; first | omega | exact Nat.le_refl _⟩, ⟨by repeat (first | (with_reducible first | exact HB.out | apply below_alloc | apply pw_below_drewN | apply below_drew1) | exact HB.out)⟩⟩
              · rw [if_neg c14] at H
                have c14b0 : decide (t229 < (-1073741824)) = false := decide_eq_false c14
                clear c14
                have H' := Aside0.mk H
                clear H
                go_wp2
                go_meet
                case rel => exact ⟨_, (decide (t229 > 1073741824)), (by first | rfl | (simp; done) | (simp [*]; done)), H', ⟨by have := HJ1.out; first | omega | exact Nat.le_refl _⟩, ⟨by repeat (first | (with_reducible first | exact HB.out | apply below_alloc | apply pw_below_drewN | apply below_drew1) | exact HB.out)⟩⟩
        case rest =>
          clear HC9
          try clear c1
          try clear p2
          try clear c3
          try clear c3b0
          try clear c4
          try clear c6
          try clear c12
          try clear c12b0
          try clear c13
          try clear c13b0
          try clear c14
          try clear c14b0
          try clear p2
          obtain ⟨kq, x30_8, rfl, HA, HJ8, HB⟩ := hcut
          cases kq with
          | zero => exact absurd HA.out (by simp [mapsheetslaw11_SeriesCircle.j1])
          | succ kj8 =>
            have H := HA.out
            clear HA
            simp only [mapsheetslaw11_SeriesCircle.j1] at H
            by_cases c15 : x30_8 = true
            · subst c15
              have H1 : (none) = some r := by rw [if_pos rfl] at H; exact H
              clear H
              have H := H1
              clear H1
              exact absurd H (by simp)
            · replace c15 := Bool.eq_false_iff.mpr c15
              subst c15
              have H1 : (if (wrap64 ((wrap64 ((wrap64 (t228 * t228)) + (wrap64 (t229 * t229)))) - 1152921504606846976)) ≥ (-2147483648) then (if (wrap64 ((wrap64 ((wrap64 (t228 * t228)) + (wrap64 (t229 * t229)))) - 1152921504606846976)) ≤ 2147483648 then ((series_Sin.f kj8 (wrap64 (-a0))).bind fun t230 => (if t230 = (wrap64 (-t228)) then ((series_Cos.f kj8 (wrap64 (-a0))).bind fun t231 => (if t231 = t229 then ((series_Sin.f kj8 (wrap64 (a0 + 1296000))).bind fun t232 => (if t232 = t228 then ((series_Cos.f kj8 (wrap64 (a0 - 1296000))).bind fun t233 => (if t233 = t229 then ((mapsheetslaw11_awake.f kj8).bind fun t234 => (some t234)) else (none))) else (none))) else (none))) else (none))) else (none)) else (none)) = some r := by rw [if_neg (show ¬ (false = true) by decide)] at H; exact H
              clear H
              have H := H1
              clear H1
              by_cases c16 : (wrap64 ((wrap64 ((wrap64 (t228 * t228)) + (wrap64 (t229 * t229)))) - 1152921504606846976)) ≥ (-2147483648)
              · rw [if_pos c16] at H
                have c16b0 : decide ((-2147483648) ≤ (wrap64 ((wrap64 ((wrap64 (t228 * t228)) + (wrap64 (t229 * t229)))) - 1152921504606846976))) = true := decide_eq_true c16
                clear c16
                by_cases c17 : (wrap64 ((wrap64 ((wrap64 (t228 * t228)) + (wrap64 (t229 * t229)))) - 1152921504606846976)) ≤ 2147483648
                · rw [if_pos c17] at H
                  have c17b0 : decide ((wrap64 ((wrap64 ((wrap64 (t228 * t228)) + (wrap64 (t229 * t229)))) - 1152921504606846976)) ≤ 2147483648) = true := decide_eq_true c17
                  clear c17
                  replace H := Option.bind_eq_some_iff.mp H
                  obtain ⟨t230, A180, H⟩ := H
                  replace H : (if t230 = (wrap64 (-t228)) then ((series_Cos.f kj8 (wrap64 (-a0))).bind fun t231 => (if t231 = t229 then ((series_Sin.f kj8 (wrap64 (a0 + 1296000))).bind fun t232 => (if t232 = t228 then ((series_Cos.f kj8 (wrap64 (a0 - 1296000))).bind fun t233 => (if t233 = t229 then ((mapsheetslaw11_awake.f kj8).bind fun t234 => (some t234)) else (none))) else (none))) else (none))) else (none)) = some r := H
                  have A18 := Aside0.mk A180
                  clear A180
                  by_cases c19 : t230 = (wrap64 (-t228))
                  · rw [if_pos c19] at H
                    have c19b0 : (t230 == (wrap64 (-t228))) = true := beq_iff_eq.mpr c19
                    have c19b1 : (t230 != (wrap64 (-t228))) = false := bne_eq_false_iff_eq.mpr c19
                    clear c19
                    replace H := Option.bind_eq_some_iff.mp H
                    obtain ⟨t231, A200, H⟩ := H
                    replace H : (if t231 = t229 then ((series_Sin.f kj8 (wrap64 (a0 + 1296000))).bind fun t232 => (if t232 = t228 then ((series_Cos.f kj8 (wrap64 (a0 - 1296000))).bind fun t233 => (if t233 = t229 then ((mapsheetslaw11_awake.f kj8).bind fun t234 => (some t234)) else (none))) else (none))) else (none)) = some r := H
                    have A20 := Aside0.mk A200
                    clear A200
                    by_cases c21 : t231 = t229
                    · rw [if_pos c21] at H
                      have c21b0 : (t231 == t229) = true := beq_iff_eq.mpr c21
                      have c21b1 : (t231 != t229) = false := bne_eq_false_iff_eq.mpr c21
                      clear c21
                      replace H := Option.bind_eq_some_iff.mp H
                      obtain ⟨t232, A220, H⟩ := H
                      replace H : (if t232 = t228 then ((series_Cos.f kj8 (wrap64 (a0 - 1296000))).bind fun t233 => (if t233 = t229 then ((mapsheetslaw11_awake.f kj8).bind fun t234 => (some t234)) else (none))) else (none)) = some r := H
                      have A22 := Aside0.mk A220
                      clear A220
                      by_cases c23 : t232 = t228
                      · rw [if_pos c23] at H
                        have c23b0 : (t232 == t228) = true := beq_iff_eq.mpr c23
                        have c23b1 : (t232 != t228) = false := bne_eq_false_iff_eq.mpr c23
                        clear c23
                        replace H := Option.bind_eq_some_iff.mp H
                        obtain ⟨t233, A240, H⟩ := H
                        replace H : (if t233 = t229 then ((mapsheetslaw11_awake.f kj8).bind fun t234 => (some t234)) else (none)) = some r := H
                        have A24 := Aside0.mk A240
                        clear A240
                        by_cases c25 : t233 = t229
                        · rw [if_pos c25] at H
                          have c25b0 : (t233 == t229) = true := beq_iff_eq.mpr c25
                          have c25b1 : (t233 != t229) = false := bne_eq_false_iff_eq.mpr c25
                          clear c25
                          replace H := Option.bind_eq_some_iff.mp H
                          obtain ⟨t234, A260, H⟩ := H
                          replace H : (some t234) = some r := H
                          have A26 := Aside0.mk A260
                          clear A260
                          obtain rfl := Option.some.inj H
                          go_wp2_with (first | (go_at_call 14; (with_reducible refine (series_Sin.calls kj8 (wrap64 (-a0)) t230 _ A18.out).mono ?_); rintro e w27 ⟨rfl, hb⟩; have n0_ := Aside0.mk (below_step (by repeat (first | (with_reducible first | exact HB.out | apply below_alloc | apply pw_below_drewN | apply below_drew1) | exact HB.out)) hb); clear HB; have HB := n0_; clear n0_; (try clear hb); (try clear hb2); (try clear hk); (try clear hi)) | (go_at_call 16; (with_reducible refine (series_Cos.calls kj8 (wrap64 (-a0)) t231 _ A20.out).mono ?_); rintro e w28 ⟨rfl, hb⟩; have n0_ := Aside0.mk (below_step (by repeat (first | (with_reducible first | exact HB.out | apply below_alloc | apply pw_below_drewN | apply below_drew1) | exact HB.out)) hb); clear HB; have HB := n0_; clear n0_; (try clear hb); (try clear hb2); (try clear hk); (try clear hi)) | (go_at_call 14; (with_reducible refine (series_Sin.calls kj8 (wrap64 (a0 + 1296000)) t232 _ A22.out).mono ?_); rintro e w29 ⟨rfl, hb⟩; have n0_ := Aside0.mk (below_step (by repeat (first | (with_reducible first | exact HB.out | apply below_alloc | apply pw_below_drewN | apply below_drew1) | exact HB.out)) hb); clear HB; have HB := n0_; clear n0_; (try clear hb); (try clear hb2); (try clear hk); (try clear hi)) | (go_at_call 16; (with_reducible refine (series_Cos.calls kj8 (wrap64 (a0 - 1296000)) t233 _ A24.out).mono ?_); rintro e w30 ⟨rfl, hb⟩; have n0_ := Aside0.mk (below_step (by repeat (first | (with_reducible first | exact HB.out | apply below_alloc | apply pw_below_drewN | apply below_drew1) | exact HB.out)) hb); clear HB; have HB := n0_; clear n0_; (try clear hb); (try clear hb2); (try clear hk); (try clear hi)) | (go_at_call 18; (with_reducible refine (mapsheetslaw11_awake.calls kj8  t234 _ A26.out).mono ?_); rintro e w31 ⟨rfl, hb⟩; have n0_ := Aside0.mk (below_step (by repeat (first | (with_reducible first | exact HB.out | apply below_alloc | apply pw_below_drewN | apply below_drew1) | exact HB.out)) hb); clear HB; have HB := n0_; clear n0_; (try clear hb); (try clear hb2); (try clear hk); (try clear hi)))
                          go_ret
                          exact ⟨by first | rfl | (simp [errW_none, errW_some] <;> rfl) | (simp [*, errW_none, errW_some] <;> rfl), by repeat (first | (with_reducible first | exact HB.out | apply below_alloc | apply pw_below_drewN | apply below_drew1) | exact HB.out)⟩
                        · rw [if_neg c25] at H
                          exact absurd H (by simp)
                      · rw [if_neg c23] at H
                        exact absurd H (by simp)
                    · rw [if_neg c21] at H
                      exact absurd H (by simp)
                  · rw [if_neg c19] at H
                    exact absurd H (by simp)
                · rw [if_neg c17] at H
                  exact absurd H (by simp)
              · rw [if_neg c16] at H
                exact absurd H (by simp)

/-- THE ONE PURE STATEMENT of mapsheetslaw11_SeriesCircle: yours. -/
def mapsheetslaw11_SeriesCircle.Pure : Prop := ∀ (a0 : Int), (Lit.int .i64 a0).wf = true → ∃ k, mapsheetslaw11_SeriesCircle.f k a0 = some true
theorem mapsheetslaw11_SeriesCircle.walk (P : mapsheetslaw11_SeriesCircle.Pure) (a0 : Int) (w : World) (w0 : (Lit.int .i64 a0).wf = true) :
    Calls Try.prog 6 #[.int .i64 a0] w fun e w' => e = .returned (.bool true) ∧ Below w.heap.size w w' := by
  obtain ⟨k, h⟩ := P a0 w0
  refine (mapsheetslaw11_SeriesCircle.calls k a0 true w h).mono ?_
  rintro e w' ⟨rfl, hd⟩
  exact ⟨rfl, hd⟩

/-! ### mapsheetslaw11_SeriesRises: function 7 -/
def mapsheetslaw11_SeriesRises.j0 : Nat → Int → Int → Bool → Option (Bool)
  | 0, _, _, _ => none
  | k + 1, x0, x1, x15 => if x15 = true then ((mapsheetslaw11_awake.f k).bind fun t235 => (some t235)) else ((series_Sin.f k x0).bind fun t236 => ((series_Sin.f k x1).bind fun t237 => (if t236 ≤ t237 then ((series_Cos.f k (wrap64 (x0 + 324000))).bind fun t238 => ((series_Cos.f k (wrap64 (x1 + 324000))).bind fun t239 => (if t238 ≥ t239 then ((mapsheetslaw11_awake.f k).bind fun t240 => (some t240)) else (none)))) else (none))))
def mapsheetslaw11_SeriesRises.f (k : Nat) (a0 : Int) (a1 : Int) : Option (Bool) := if a0 < (-324000) then (mapsheetslaw11_SeriesRises.j0 k a0 a1 true) else (if a0 > a1 then (mapsheetslaw11_SeriesRises.j0 k a0 a1 true) else (mapsheetslaw11_SeriesRises.j0 k a0 a1 (decide (a1 > 324000))))
theorem mapsheetslaw11_SeriesRises.mono_l : ∀ k, (∀ y0 y1 y2, LeO (mapsheetslaw11_SeriesRises.j0 k y0 y1 y2) (mapsheetslaw11_SeriesRises.j0 (k + 1) y0 y1 y2))
  | 0 => fun _ _ _ r h => by simp [mapsheetslaw11_SeriesRises.j0] at h
  | k + 1 => by
    have ih0 := mapsheetslaw11_SeriesRises.mono_l k
    · intro y0 y1 y2
      unfold mapsheetslaw11_SeriesRises.j0
      repeat' first
      | (with_reducible exact ih0 _ _ _)
      | (with_reducible exact mapsheetslaw11_awake.mono _)
      | (with_reducible exact series_Cos.mono _ _)
      | (with_reducible exact series_Sin.mono _ _)
      | (with_reducible exact LeO.refl _)
      | (with_reducible exact LeO.none _)
      | (with_reducible refine LeO.ite ?_ ?_)
      | (with_reducible refine LeO.bind ?_ (fun _ => ?_))
      | exact ih0 _ _ _
      | exact mapsheetslaw11_awake.mono _
      | exact series_Cos.mono _ _
      | exact series_Sin.mono _ _
      | exact LeO.none _
      | refine LeO.ite ?_ ?_
      | refine LeO.bind ?_ (fun _ => ?_)
theorem mapsheetslaw11_SeriesRises.mono : ∀ a0 a1 k, LeO (mapsheetslaw11_SeriesRises.f k a0 a1) (mapsheetslaw11_SeriesRises.f (k + 1) a0 a1) := by
  intro a0 a1 k
  have ih0 := mapsheetslaw11_SeriesRises.mono_l k
  unfold mapsheetslaw11_SeriesRises.f
  repeat' first
      | (with_reducible exact ih0 _ _ _)
      | (with_reducible exact mapsheetslaw11_awake.mono _)
      | (with_reducible exact series_Cos.mono _ _)
      | (with_reducible exact series_Sin.mono _ _)
      | (with_reducible exact LeO.refl _)
      | (with_reducible exact LeO.none _)
      | (with_reducible refine LeO.ite ?_ ?_)
      | (with_reducible refine LeO.bind ?_ (fun _ => ?_))
      | exact ih0 _ _ _
      | exact mapsheetslaw11_awake.mono _
      | exact series_Cos.mono _ _
      | exact series_Sin.mono _ _
      | exact LeO.none _
      | refine LeO.ite ?_ ?_
      | refine LeO.bind ?_ (fun _ => ?_)
set_option maxHeartbeats 8000000 in
set_option maxRecDepth 100000 in
theorem mapsheetslaw11_SeriesRises.calls (k : Nat) (a0 : Int) (a1 : Int) (r : Bool) (w : World) (h : mapsheetslaw11_SeriesRises.f k a0 a1 = some r) :
    Calls Try.prog 7 #[.int .i64 a0, .int .i64 a1] w fun e w' => e = .returned (.bool r) ∧ Below w.heap.size w w' := by
  have HB := Aside0.mk (Below.refl w.heap.size w)
  have H : (if a0 < (-324000) then (mapsheetslaw11_SeriesRises.j0 k a0 a1 true) else (if a0 > a1 then (mapsheetslaw11_SeriesRises.j0 k a0 a1 true) else (mapsheetslaw11_SeriesRises.j0 k a0 a1 (decide (a1 > 324000))))) = some r := h
  clear h
  have HC3 := Aside0.mk H
  clear H
  go_enter Try.func7, Try.ntmps7
  go_upto_region 1 with (fail)
  go_cut [15] (fun v15 wc => ∃ (kq : Nat) (x15_2 : Bool), v15 = .bool x15_2 ∧ Aside0 (mapsheetslaw11_SeriesRises.j0 kq a0 a1 x15_2 = some r) ∧ Aside0 (kq ≤ k) ∧ Aside0 (Below w.heap.size w wc))
  case first =>
    have H := HC3.out
    clear HC3
    by_cases c4 : a0 < (-324000)
    · rw [if_pos c4] at H
      have c4b0 : decide (a0 < (-324000)) = true := decide_eq_true c4
      clear c4
      (first | rw [c4b0] | (simp only [i64_w, i32_w]; rw [c4b0]) | skip)
      have H' := Aside0.mk H
      clear H
      go_wp2
      go_meet
      case rel => exact ⟨_, (true), (by first | rfl | (simp; done) | (simp [*]; done)), H', ⟨by first | omega | exact Nat.le_refl _⟩, ⟨by repeat (first | (with_reducible first | exact HB.out | apply below_alloc | apply pw_below_drewN | apply below_drew1) | exact HB.out)⟩⟩
    · rw [if_neg c4] at H
      have c4b0 : decide (a0 < (-324000)) = false := decide_eq_false c4
      clear c4
      (first | rw [c4b0] | (simp only [i64_w, i32_w]; rw [c4b0]) | skip)
      by_cases c5 : a0 > a1
      · rw [if_pos c5] at H
        have c5b0 : decide (a1 < a0) = true := decide_eq_true c5
        clear c5
        have H' := Aside0.mk H
        clear H
        go_wp2
        go_meet
        case rel => exact ⟨_, (true), (by first | rfl | (simp; done) | (simp [*]; done)), H', ⟨by first | omega | exact Nat.le_refl _⟩, ⟨by repeat (first | (with_reducible first | exact HB.out | apply below_alloc | apply pw_below_drewN | apply below_drew1) | exact HB.out)⟩⟩
      · rw [if_neg c5] at H
        have c5b0 : decide (a1 < a0) = false := decide_eq_false c5
        clear c5
        have H' := Aside0.mk H
        clear H
        go_wp2
        go_meet
        case rel => exact ⟨_, (decide (a1 > 324000)), (by first | rfl | (simp; done) | (simp [*]; done)), H', ⟨by first | omega | exact Nat.le_refl _⟩, ⟨by repeat (first | (with_reducible first | exact HB.out | apply below_alloc | apply pw_below_drewN | apply below_drew1) | exact HB.out)⟩⟩
  case rest =>
    clear HC3
    try clear p2
    try clear c4
    try clear c4b0
    try clear c5
    try clear c5b0
    obtain ⟨kq, x15_2, rfl, HA, HJ2, HB⟩ := hcut
    cases kq with
    | zero => exact absurd HA.out (by simp [mapsheetslaw11_SeriesRises.j0])
    | succ kj2 =>
      have H := HA.out
      clear HA
      simp only [mapsheetslaw11_SeriesRises.j0] at H
      by_cases c6 : x15_2 = true
      · subst c6
        have H1 : ((mapsheetslaw11_awake.f kj2).bind fun t235 => (some t235)) = some r := by rw [if_pos rfl] at H; exact H
        clear H
        have H := H1
        clear H1
        replace H := Option.bind_eq_some_iff.mp H
        obtain ⟨t235, A70, H⟩ := H
        replace H : (some t235) = some r := H
        have A7 := Aside0.mk A70
        clear A70
        obtain rfl := Option.some.inj H
        go_wp2_with (first | ((with_reducible refine gate_callee (f := 18) rfl ?_); refine goesL_ (some 16) rfl rfl Try.func18 (by kernel_rfl) rfl #[] rfl (by (try simp only [List.map_toArray, List.map_cons, List.map_nil]); first | done | rfl | (simp only [List.length_drop, List.length_take]; rfl)) ?_; (with_reducible refine (mapsheetslaw11_awake.calls kj2  t235 _ A7.out).mono ?_); rintro e w8 ⟨rfl, hb⟩; refine ⟨_, rfl, ?_⟩; have n0_ := Aside0.mk (below_step (by repeat (first | (with_reducible first | exact HB.out | apply below_alloc | apply pw_below_drewN | apply below_drew1) | exact HB.out)) hb); clear HB; have HB := n0_; clear n0_; (try clear hb); (try clear hb2); (try clear hk); (try clear hi)))
        go_ret
        exact ⟨by first | rfl | (simp [errW_none, errW_some] <;> rfl) | (simp [*, errW_none, errW_some] <;> rfl), by repeat (first | (with_reducible first | exact HB.out | apply below_alloc | apply pw_below_drewN | apply below_drew1) | exact HB.out)⟩
      · replace c6 := Bool.eq_false_iff.mpr c6
        subst c6
        have H1 : ((series_Sin.f kj2 a0).bind fun t236 => ((series_Sin.f kj2 a1).bind fun t237 => (if t236 ≤ t237 then ((series_Cos.f kj2 (wrap64 (a0 + 324000))).bind fun t238 => ((series_Cos.f kj2 (wrap64 (a1 + 324000))).bind fun t239 => (if t238 ≥ t239 then ((mapsheetslaw11_awake.f kj2).bind fun t240 => (some t240)) else (none)))) else (none)))) = some r := by rw [if_neg (show ¬ (false = true) by decide)] at H; exact H
        clear H
        have H := H1
        clear H1
        replace H := Option.bind_eq_some_iff.mp H
        obtain ⟨t236, A90, H⟩ := H
        replace H : ((series_Sin.f kj2 a1).bind fun t237 => (if t236 ≤ t237 then ((series_Cos.f kj2 (wrap64 (a0 + 324000))).bind fun t238 => ((series_Cos.f kj2 (wrap64 (a1 + 324000))).bind fun t239 => (if t238 ≥ t239 then ((mapsheetslaw11_awake.f kj2).bind fun t240 => (some t240)) else (none)))) else (none))) = some r := H
        have A9 := Aside0.mk A90
        clear A90
        replace H := Option.bind_eq_some_iff.mp H
        obtain ⟨t237, A100, H⟩ := H
        replace H : (if t236 ≤ t237 then ((series_Cos.f kj2 (wrap64 (a0 + 324000))).bind fun t238 => ((series_Cos.f kj2 (wrap64 (a1 + 324000))).bind fun t239 => (if t238 ≥ t239 then ((mapsheetslaw11_awake.f kj2).bind fun t240 => (some t240)) else (none)))) else (none)) = some r := H
        have A10 := Aside0.mk A100
        clear A100
        by_cases c11 : t236 ≤ t237
        · rw [if_pos c11] at H
          have c11b0 : decide (t236 ≤ t237) = true := decide_eq_true c11
          clear c11
          replace H := Option.bind_eq_some_iff.mp H
          obtain ⟨t238, A120, H⟩ := H
          replace H : ((series_Cos.f kj2 (wrap64 (a1 + 324000))).bind fun t239 => (if t238 ≥ t239 then ((mapsheetslaw11_awake.f kj2).bind fun t240 => (some t240)) else (none))) = some r := H
          have A12 := Aside0.mk A120
          clear A120
          replace H := Option.bind_eq_some_iff.mp H
          obtain ⟨t239, A130, H⟩ := H
          replace H : (if t238 ≥ t239 then ((mapsheetslaw11_awake.f kj2).bind fun t240 => (some t240)) else (none)) = some r := H
          have A13 := Aside0.mk A130
          clear A130
          by_cases c14 : t238 ≥ t239
          · rw [if_pos c14] at H
            have c14b0 : decide (t239 ≤ t238) = true := decide_eq_true c14
            clear c14
            replace H := Option.bind_eq_some_iff.mp H
            obtain ⟨t240, A150, H⟩ := H
            replace H : (some t240) = some r := H
            have A15 := Aside0.mk A150
            clear A150
            obtain rfl := Option.some.inj H
            go_wp2_with (first | ((with_reducible refine gate_callee (f := 14) rfl ?_); refine goesL_ (some 18) rfl rfl Try.func14 (by kernel_rfl) rfl #[.int .i64 a0] rfl (by (try simp only [List.map_toArray, List.map_cons, List.map_nil]); first | done | rfl | (simp only [List.length_drop, List.length_take]; rfl)) ?_; (with_reducible refine (series_Sin.calls kj2 a0 t236 _ A9.out).mono ?_); rintro e w16 ⟨rfl, hb⟩; refine ⟨_, rfl, ?_⟩; have n0_ := Aside0.mk (below_step (by repeat (first | (with_reducible first | exact HB.out | apply below_alloc | apply pw_below_drewN | apply below_drew1) | exact HB.out)) hb); clear HB; have HB := n0_; clear n0_; (try clear hb); (try clear hb2); (try clear hk); (try clear hi)) | ((with_reducible refine gate_callee (f := 14) rfl ?_); refine goesL_ (some 20) rfl rfl Try.func14 (by kernel_rfl) rfl #[.int .i64 a1] rfl (by (try simp only [List.map_toArray, List.map_cons, List.map_nil]); first | done | rfl | (simp only [List.length_drop, List.length_take]; rfl)) ?_; (with_reducible refine (series_Sin.calls kj2 a1 t237 _ A10.out).mono ?_); rintro e w17 ⟨rfl, hb⟩; refine ⟨_, rfl, ?_⟩; have n0_ := Aside0.mk (below_step (by repeat (first | (with_reducible first | exact HB.out | apply below_alloc | apply pw_below_drewN | apply below_drew1) | exact HB.out)) hb); clear HB; have HB := n0_; clear n0_; (try clear hb); (try clear hb2); (try clear hk); (try clear hi)) | (go_at_call 16; (with_reducible refine (series_Cos.calls kj2 (wrap64 (a0 + 324000)) t238 _ A12.out).mono ?_); rintro e w18 ⟨rfl, hb⟩; have n0_ := Aside0.mk (below_step (by repeat (first | (with_reducible first | exact HB.out | apply below_alloc | apply pw_below_drewN | apply below_drew1) | exact HB.out)) hb); clear HB; have HB := n0_; clear n0_; (try clear hb); (try clear hb2); (try clear hk); (try clear hi)) | (go_at_call 16; (with_reducible refine (series_Cos.calls kj2 (wrap64 (a1 + 324000)) t239 _ A13.out).mono ?_); rintro e w19 ⟨rfl, hb⟩; have n0_ := Aside0.mk (below_step (by repeat (first | (with_reducible first | exact HB.out | apply below_alloc | apply pw_below_drewN | apply below_drew1) | exact HB.out)) hb); clear HB; have HB := n0_; clear n0_; (try clear hb); (try clear hb2); (try clear hk); (try clear hi)) | (go_at_call 18; (with_reducible refine (mapsheetslaw11_awake.calls kj2  t240 _ A15.out).mono ?_); rintro e w20 ⟨rfl, hb⟩; have n0_ := Aside0.mk (below_step (by repeat (first | (with_reducible first | exact HB.out | apply below_alloc | apply pw_below_drewN | apply below_drew1) | exact HB.out)) hb); clear HB; have HB := n0_; clear n0_; (try clear hb); (try clear hb2); (try clear hk); (try clear hi)))
            go_ret
            exact ⟨by first | rfl | (simp [errW_none, errW_some] <;> rfl) | (simp [*, errW_none, errW_some] <;> rfl), by repeat (first | (with_reducible first | exact HB.out | apply below_alloc | apply pw_below_drewN | apply below_drew1) | exact HB.out)⟩
          · rw [if_neg c14] at H
            exact absurd H (by simp)
        · rw [if_neg c11] at H
          exact absurd H (by simp)

/-- THE ONE PURE STATEMENT of mapsheetslaw11_SeriesRises: yours. -/
def mapsheetslaw11_SeriesRises.Pure : Prop := ∀ (a0 : Int) (a1 : Int), (Lit.int .i64 a0).wf = true → (Lit.int .i64 a1).wf = true → ∃ k, mapsheetslaw11_SeriesRises.f k a0 a1 = some true
theorem mapsheetslaw11_SeriesRises.walk (P : mapsheetslaw11_SeriesRises.Pure) (a0 : Int) (a1 : Int) (w : World) (w0 : (Lit.int .i64 a0).wf = true) (w1 : (Lit.int .i64 a1).wf = true) :
    Calls Try.prog 7 #[.int .i64 a0, .int .i64 a1] w fun e w' => e = .returned (.bool true) ∧ Below w.heap.size w w' := by
  obtain ⟨k, h⟩ := P a0 a1 w0 w1
  refine (mapsheetslaw11_SeriesRises.calls k a0 a1 true w h).mono ?_
  rintro e w' ⟨rfl, hd⟩
  exact ⟨rfl, hd⟩

/-! ### mapsheetslaw11_abs: function 25 -/
def mapsheetslaw11_abs.f (a0 : Int) : Option (Int) := if a0 < 0 then (some (wrap64 (-a0))) else (some a0)
set_option maxHeartbeats 8000000 in
set_option maxRecDepth 100000 in
theorem mapsheetslaw11_abs.calls (a0 : Int) (r : Int) (w : World) (h : mapsheetslaw11_abs.f a0 = some r) :
    Calls Try.prog 25 #[.int .i64 a0] w fun e w' => e = .returned (.int .i64 r) ∧ Drawn0 w w' := by
  have H : (if a0 < 0 then (some (wrap64 (-a0))) else (some a0)) = some r := h
  clear h
  by_cases c2 : a0 < 0
  · rw [if_pos c2] at H
    have c2b0 : decide (a0 < 0) = true := decide_eq_true c2
    clear c2
    obtain rfl := Option.some.inj H
    go_enter Try.func25, Try.ntmps25
    go_wp2
    go_ret
    exact ⟨by first | rfl | (simp; done) | (simp [*]; done), by repeat (first | exact Drawn0.refl _ | apply Drawn0.step)⟩
  · rw [if_neg c2] at H
    have c2b0 : decide (a0 < 0) = false := decide_eq_false c2
    clear c2
    obtain rfl := Option.some.inj H
    go_enter Try.func25, Try.ntmps25
    go_wp2
    go_ret
    exact ⟨by first | rfl | (simp; done) | (simp [*]; done), by repeat (first | exact Drawn0.refl _ | apply Drawn0.step)⟩

end Go.Proofs.Ytaehaehgngafnaa.P
