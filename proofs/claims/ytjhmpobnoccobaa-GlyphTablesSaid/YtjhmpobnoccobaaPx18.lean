-- Written by wip/tools/xprint.py (this session's program, over the kit's print.py) for this seat.
import Derived.Test.YtjhmpobnoccobaaPx0
import Derived.Test.YtjhmpobnoccobaaPx1
import Derived.Test.YtjhmpobnoccobaaPx2
import Derived.Test.YtjhmpobnoccobaaPx5
import Derived.Test.YtjhmpobnoccobaaPx7
import Derived.Test.YtjhmpobnoccobaaPx17
namespace Go.Proofs.Ytjhmpobnoccobaa.P
open Go.RowKit Go.Proofs.YtjhmpobnoccobaaW.PrintWords Go.Proofs.YtjhmpobnoccobaaW.PrintLast Go.Proofs.YtjhmpobnoccobaaW.PrintMore
attribute [local go_sem] max2_int min2_int max_two min_two max_three min_three max_four min_four   -- for this text's walks alone
set_option linter.unusedVariables false
set_option linter.unusedSimpArgs false

/-! ### mapsheetsref06_Fold: function 23 -/
mutual
def mapsheetsref06_Fold.j0 : Nat → Int → Bool → Option (Int)
 | 0, _, _ => none
 | k + 1, x0, x3 => if x3 = true then (some (wrap64 (x0 + 32))) else (if x0 ≥ 913 then (if x0 ≤ 937 then (mapsheetsref06_Fold.j1 k x0 true) else (if x0 ≥ 1040 then (mapsheetsref06_Fold.j1 k x0 (decide (x0 ≤ 1071))) else (mapsheetsref06_Fold.j1 k x0 false))) else (if x0 ≥ 1040 then (mapsheetsref06_Fold.j1 k x0 (decide (x0 ≤ 1071))) else (mapsheetsref06_Fold.j1 k x0 false)))
def mapsheetsref06_Fold.j1 : Nat → Int → Bool → Option (Int)
 | 0, _, _ => none
 | k + 1, x0, x24 => if x24 = true then (some (wrap64 (x0 + 32))) else (if x0 ≥ 1024 then (mapsheetsref06_Fold.j2 k x0 (decide (x0 ≤ 1039))) else (mapsheetsref06_Fold.j2 k x0 false))
def mapsheetsref06_Fold.j2 : Nat → Int → Bool → Option (Int)
 | 0, _, _ => none
 | k + 1, x0, x41 => if x41 = true then (some (wrap64 (x0 + 80))) else (if (Int.tmod x0 2) = 0 then (if x0 ≥ 256 then (if x0 ≤ 310 then (mapsheetsref06_Fold.j3 k x0 true) else (if x0 ≥ 330 then (mapsheetsref06_Fold.j3 k x0 (decide (x0 ≤ 374))) else (mapsheetsref06_Fold.j3 k x0 false))) else (if x0 ≥ 330 then (mapsheetsref06_Fold.j3 k x0 (decide (x0 ≤ 374))) else (mapsheetsref06_Fold.j3 k x0 false))) else (mapsheetsref06_Fold.j3 k x0 false))
def mapsheetsref06_Fold.j3 : Nat → Int → Bool → Option (Int)
 | 0, _, _ => none
 | k + 1, x0, x50 => if x50 = true then (some (wrap64 (x0 + 1))) else (if (Int.tmod x0 2) = 1 then (if x0 ≥ 313 then (if x0 ≤ 327 then (mapsheetsref06_Fold.j4 k x0 true) else (if x0 ≥ 377 then (mapsheetsref06_Fold.j4 k x0 (decide (x0 ≤ 381))) else (mapsheetsref06_Fold.j4 k x0 false))) else (if x0 ≥ 377 then (mapsheetsref06_Fold.j4 k x0 (decide (x0 ≤ 381))) else (mapsheetsref06_Fold.j4 k x0 false))) else (mapsheetsref06_Fold.j4 k x0 false))
def mapsheetsref06_Fold.j4 : Nat → Int → Bool → Option (Int)
 | 0, _, _ => none
 | k + 1, x0, x72 => if x72 = true then (some (wrap64 (x0 + 1))) else (if x0 = 376 then (some 255) else (some x0))
end
def mapsheetsref06_Fold.f (k : Nat) (a0 : Int) : Option (Int) := if a0 ≥ 65 then (if a0 ≤ 90 then (mapsheetsref06_Fold.j0 k a0 true) else (if a0 ≥ 192 then (if a0 ≤ 222 then (mapsheetsref06_Fold.j0 k a0 (a0 != 215)) else (mapsheetsref06_Fold.j0 k a0 false)) else (mapsheetsref06_Fold.j0 k a0 false))) else (if a0 ≥ 192 then (if a0 ≤ 222 then (mapsheetsref06_Fold.j0 k a0 (a0 != 215)) else (mapsheetsref06_Fold.j0 k a0 false)) else (mapsheetsref06_Fold.j0 k a0 false))
theorem mapsheetsref06_Fold.mono_l : ∀ k, (∀ y0 y1, LeO (mapsheetsref06_Fold.j0 k y0 y1) (mapsheetsref06_Fold.j0 (k + 1) y0 y1)) ∧ (∀ y0 y1, LeO (mapsheetsref06_Fold.j1 k y0 y1) (mapsheetsref06_Fold.j1 (k + 1) y0 y1)) ∧ (∀ y0 y1, LeO (mapsheetsref06_Fold.j2 k y0 y1) (mapsheetsref06_Fold.j2 (k + 1) y0 y1)) ∧ (∀ y0 y1, LeO (mapsheetsref06_Fold.j3 k y0 y1) (mapsheetsref06_Fold.j3 (k + 1) y0 y1)) ∧ (∀ y0 y1, LeO (mapsheetsref06_Fold.j4 k y0 y1) (mapsheetsref06_Fold.j4 (k + 1) y0 y1))
 | 0 => ⟨fun _ _ r h => by simp [mapsheetsref06_Fold.j0] at h, fun _ _ r h => by simp [mapsheetsref06_Fold.j1] at h, fun _ _ r h => by simp [mapsheetsref06_Fold.j2] at h, fun _ _ r h => by simp [mapsheetsref06_Fold.j3] at h, fun _ _ r h => by simp [mapsheetsref06_Fold.j4] at h⟩
 | k + 1 => by
  obtain ⟨ih0, ih1, ih2, ih3, ih4⟩ := mapsheetsref06_Fold.mono_l k
  refine ⟨?_, ?_, ?_, ?_, ?_⟩
  ·intro y0 y1
   unfold mapsheetsref06_Fold.j0
   repeat' first
   | (with_reducible exact ih0 _ _)
   | (with_reducible exact ih1 _ _)
   | (with_reducible exact ih2 _ _)
   | (with_reducible exact ih3 _ _)
   | (with_reducible exact ih4 _ _)
   | (with_reducible exact LeO.refl _)
   | (with_reducible exact LeO.none _)
   | (with_reducible refine LeO.ite ?_ ?_)
   | (with_reducible refine LeO.bind ?_ (fun _ => ?_))
   | exact ih0 _ _
   | exact ih1 _ _
   | exact ih2 _ _
   | exact ih3 _ _
   | exact ih4 _ _
   | exact LeO.none _
   | refine LeO.ite ?_ ?_
   | refine LeO.bind ?_ (fun _ => ?_)
  ·intro y0 y1
   unfold mapsheetsref06_Fold.j1
   repeat' first
   | (with_reducible exact ih0 _ _)
   | (with_reducible exact ih1 _ _)
   | (with_reducible exact ih2 _ _)
   | (with_reducible exact ih3 _ _)
   | (with_reducible exact ih4 _ _)
   | (with_reducible exact LeO.refl _)
   | (with_reducible exact LeO.none _)
   | (with_reducible refine LeO.ite ?_ ?_)
   | (with_reducible refine LeO.bind ?_ (fun _ => ?_))
   | exact ih0 _ _
   | exact ih1 _ _
   | exact ih2 _ _
   | exact ih3 _ _
   | exact ih4 _ _
   | exact LeO.none _
   | refine LeO.ite ?_ ?_
   | refine LeO.bind ?_ (fun _ => ?_)
  ·intro y0 y1
   unfold mapsheetsref06_Fold.j2
   repeat' first
   | (with_reducible exact ih0 _ _)
   | (with_reducible exact ih1 _ _)
   | (with_reducible exact ih2 _ _)
   | (with_reducible exact ih3 _ _)
   | (with_reducible exact ih4 _ _)
   | (with_reducible exact LeO.refl _)
   | (with_reducible exact LeO.none _)
   | (with_reducible refine LeO.ite ?_ ?_)
   | (with_reducible refine LeO.bind ?_ (fun _ => ?_))
   | exact ih0 _ _
   | exact ih1 _ _
   | exact ih2 _ _
   | exact ih3 _ _
   | exact ih4 _ _
   | exact LeO.none _
   | refine LeO.ite ?_ ?_
   | refine LeO.bind ?_ (fun _ => ?_)
  ·intro y0 y1
   unfold mapsheetsref06_Fold.j3
   repeat' first
   | (with_reducible exact ih0 _ _)
   | (with_reducible exact ih1 _ _)
   | (with_reducible exact ih2 _ _)
   | (with_reducible exact ih3 _ _)
   | (with_reducible exact ih4 _ _)
   | (with_reducible exact LeO.refl _)
   | (with_reducible exact LeO.none _)
   | (with_reducible refine LeO.ite ?_ ?_)
   | (with_reducible refine LeO.bind ?_ (fun _ => ?_))
   | exact ih0 _ _
   | exact ih1 _ _
   | exact ih2 _ _
   | exact ih3 _ _
   | exact ih4 _ _
   | exact LeO.none _
   | refine LeO.ite ?_ ?_
   | refine LeO.bind ?_ (fun _ => ?_)
  ·intro y0 y1
   unfold mapsheetsref06_Fold.j4
   repeat' first
   | (with_reducible exact ih0 _ _)
   | (with_reducible exact ih1 _ _)
   | (with_reducible exact ih2 _ _)
   | (with_reducible exact ih3 _ _)
   | (with_reducible exact ih4 _ _)
   | (with_reducible exact LeO.refl _)
   | (with_reducible exact LeO.none _)
   | (with_reducible refine LeO.ite ?_ ?_)
   | (with_reducible refine LeO.bind ?_ (fun _ => ?_))
   | exact ih0 _ _
   | exact ih1 _ _
   | exact ih2 _ _
   | exact ih3 _ _
   | exact ih4 _ _
   | exact LeO.none _
   | refine LeO.ite ?_ ?_
   | refine LeO.bind ?_ (fun _ => ?_)
theorem mapsheetsref06_Fold.mono : ∀ a0 k, LeO (mapsheetsref06_Fold.f k a0) (mapsheetsref06_Fold.f (k + 1) a0) := by
 intro a0 k
 obtain ⟨ih0, ih1, ih2, ih3, ih4⟩ := mapsheetsref06_Fold.mono_l k
 unfold mapsheetsref06_Fold.f
 repeat' first
   | (with_reducible exact ih0 _ _)
   | (with_reducible exact ih1 _ _)
   | (with_reducible exact ih2 _ _)
   | (with_reducible exact ih3 _ _)
   | (with_reducible exact ih4 _ _)
   | (with_reducible exact LeO.refl _)
   | (with_reducible exact LeO.none _)
   | (with_reducible refine LeO.ite ?_ ?_)
   | (with_reducible refine LeO.bind ?_ (fun _ => ?_))
   | exact ih0 _ _
   | exact ih1 _ _
   | exact ih2 _ _
   | exact ih3 _ _
   | exact ih4 _ _
   | exact LeO.none _
   | refine LeO.ite ?_ ?_
   | refine LeO.bind ?_ (fun _ => ?_)
set_option maxHeartbeats 8000000 in
set_option maxRecDepth 100000 in
theorem mapsheetsref06_Fold.calls (k : Nat) (a0 : Int) (r : Int) (w : World) (h : mapsheetsref06_Fold.f k a0 = some r) :
  Calls Try.prog 23 #[.int .i64 a0] w fun e w' => e = .returned (.int .i64 r) ∧ Drawn0 w w' := by
 have H : (if a0 ≥ 65 then (if a0 ≤ 90 then (mapsheetsref06_Fold.j0 k a0 true) else (if a0 ≥ 192 then (if a0 ≤ 222 then (mapsheetsref06_Fold.j0 k a0 (a0 != 215)) else (mapsheetsref06_Fold.j0 k a0 false)) else (mapsheetsref06_Fold.j0 k a0 false))) else (if a0 ≥ 192 then (if a0 ≤ 222 then (mapsheetsref06_Fold.j0 k a0 (a0 != 215)) else (mapsheetsref06_Fold.j0 k a0 false)) else (mapsheetsref06_Fold.j0 k a0 false))) = some r := h
 clear h
 have HC2 := Aside0.mk H
 clear H
 go_enter Try.func23, Try.ntmps23
 go_upto_region 1 with (fail)
 go_cut [3] (fun v3 wc => ∃ (kq : Nat) (x3_1 : Bool), v3 = .bool x3_1 ∧ Aside0 (mapsheetsref06_Fold.j0 kq a0 x3_1 = some r) ∧ Aside0 (kq ≤ k) ∧ Drawn0 w wc)
 case first =>
  have H := HC2.out
  clear HC2
  by_cases c3 : a0 ≥ 65
  ·rw [if_pos c3] at H
   have c3b0 : decide (65 ≤ a0) = true := decide_eq_true c3
   clear c3
   (first | rw [c3b0] | (simp only [i64_w, i32_w]; rw [c3b0]) | skip)
   by_cases c4 : a0 ≤ 90
   ·rw [if_pos c4] at H
    have c4b0 : decide (a0 ≤ 90) = true := decide_eq_true c4
    clear c4
    have H' := Aside0.mk H
    clear H
    go_wp2
    go_meet
    case rel => exact ⟨_, (true), (by first | rfl | (simp; done) | (simp [*]; done)), H', ⟨by first | omega | exact Nat.le_refl _⟩, by repeat (first | exact Drawn0.refl _ | apply Drawn0.step)⟩
   ·rw [if_neg c4] at H
    have c4b0 : decide (a0 ≤ 90) = false := decide_eq_false c4
    clear c4
    by_cases c5 : a0 ≥ 192
    ·rw [if_pos c5] at H
     have c5b0 : decide (192 ≤ a0) = true := decide_eq_true c5
     clear c5
     by_cases c6 : a0 ≤ 222
     ·rw [if_pos c6] at H
      have c6b0 : decide (a0 ≤ 222) = true := decide_eq_true c6
      clear c6
      have H' := Aside0.mk H
      clear H
      go_wp2
      go_meet
      case rel => exact ⟨_, ((a0 != 215)), (by first | rfl | (simp; done) | (simp [*]; done)), H', ⟨by first | omega | exact Nat.le_refl _⟩, by repeat (first | exact Drawn0.refl _ | apply Drawn0.step)⟩
     ·rw [if_neg c6] at H
      have c6b0 : decide (a0 ≤ 222) = false := decide_eq_false c6
      clear c6
      have H' := Aside0.mk H
      clear H
      go_wp2
      go_meet
      case rel => exact ⟨_, (false), (by first | rfl | (simp; done) | (simp [*]; done)), H', ⟨by first | omega | exact Nat.le_refl _⟩, by repeat (first | exact Drawn0.refl _ | apply Drawn0.step)⟩
    ·rw [if_neg c5] at H
     have c5b0 : decide (192 ≤ a0) = false := decide_eq_false c5
     clear c5
     have H' := Aside0.mk H
     clear H
     go_wp2
     go_meet
     case rel => exact ⟨_, (false), (by first | rfl | (simp; done) | (simp [*]; done)), H', ⟨by first | omega | exact Nat.le_refl _⟩, by repeat (first | exact Drawn0.refl _ | apply Drawn0.step)⟩
  ·rw [if_neg c3] at H
   have c3b0 : decide (65 ≤ a0) = false := decide_eq_false c3
   clear c3
   (first | rw [c3b0] | (simp only [i64_w, i32_w]; rw [c3b0]) | skip)
   by_cases c7 : a0 ≥ 192
   ·rw [if_pos c7] at H
    have c7b0 : decide (192 ≤ a0) = true := decide_eq_true c7
    clear c7
    by_cases c8 : a0 ≤ 222
    ·rw [if_pos c8] at H
     have c8b0 : decide (a0 ≤ 222) = true := decide_eq_true c8
     clear c8
     have H' := Aside0.mk H
     clear H
     go_wp2
     go_meet
     case rel => exact ⟨_, ((a0 != 215)), (by first | rfl | (simp; done) | (simp [*]; done)), H', ⟨by first | omega | exact Nat.le_refl _⟩, by repeat (first | exact Drawn0.refl _ | apply Drawn0.step)⟩
    ·rw [if_neg c8] at H
     have c8b0 : decide (a0 ≤ 222) = false := decide_eq_false c8
     clear c8
     have H' := Aside0.mk H
     clear H
     go_wp2
     go_meet
     case rel => exact ⟨_, (false), (by first | rfl | (simp; done) | (simp [*]; done)), H', ⟨by first | omega | exact Nat.le_refl _⟩, by repeat (first | exact Drawn0.refl _ | apply Drawn0.step)⟩
   ·rw [if_neg c7] at H
    have c7b0 : decide (192 ≤ a0) = false := decide_eq_false c7
    clear c7
    have H' := Aside0.mk H
    clear H
    go_wp2
    go_meet
    case rel => exact ⟨_, (false), (by first | rfl | (simp; done) | (simp [*]; done)), H', ⟨by first | omega | exact Nat.le_refl _⟩, by repeat (first | exact Drawn0.refl _ | apply Drawn0.step)⟩
 case rest =>
  clear HC2
  try clear c2
  try clear p2
  try clear c3
  try clear c3b0
  try clear c4
  try clear c4b0
  try clear c5
  try clear c5b0
  try clear c6
  try clear c6b0
  try clear c7
  try clear c7b0
  try clear c8
  try clear c8b0
  obtain ⟨kq, x3_1, rfl, HA, HJ1, ⟨mc1, rfl⟩⟩ := hcut
  cases kq with
  | zero => exact absurd HA.out (by simp [mapsheetsref06_Fold.j0])
  | succ kj1 =>
   have H := HA.out
   clear HA
   simp only [mapsheetsref06_Fold.j0] at H
   by_cases c9 : x3_1 = true
   ·subst c9
    have H1 : (some (wrap64 (a0 + 32))) = some r := by rw [if_pos rfl] at H; exact H
    clear H
    have H := H1
    clear H1
    obtain rfl := Option.some.inj H
    go_wp2
    go_ret
    exact ⟨by first | rfl | (simp; done) | (simp [*]; done), by repeat (first | exact Drawn0.refl _ | apply Drawn0.step)⟩
   ·replace c9 := Bool.eq_false_iff.mpr c9
    subst c9
    have H1 : (if a0 ≥ 913 then (if a0 ≤ 937 then (mapsheetsref06_Fold.j1 kj1 a0 true) else (if a0 ≥ 1040 then (mapsheetsref06_Fold.j1 kj1 a0 (decide (a0 ≤ 1071))) else (mapsheetsref06_Fold.j1 kj1 a0 false))) else (if a0 ≥ 1040 then (mapsheetsref06_Fold.j1 kj1 a0 (decide (a0 ≤ 1071))) else (mapsheetsref06_Fold.j1 kj1 a0 false))) = some r := by rw [if_neg (show ¬ (false = true) by decide)] at H; exact H
    clear H
    have H := H1
    clear H1
    have HC10 := Aside0.mk H
    clear H
    go_upto_region 3 with (fail)
    go_cut [24] (fun v24 wc => ∃ (kq : Nat) (x24_9 : Bool), v24 = .bool x24_9 ∧ Aside0 (mapsheetsref06_Fold.j1 kq a0 x24_9 = some r) ∧ Aside0 (kq ≤ kj1) ∧ Drawn0 w wc)
    case first =>
     have H := HC10.out
     clear HC10
     by_cases c11 : a0 ≥ 913
     ·rw [if_pos c11] at H
      have c11b0 : decide (913 ≤ a0) = true := decide_eq_true c11
      clear c11
      (first | rw [c11b0] | (simp only [i64_w, i32_w]; rw [c11b0]) | skip)
      by_cases c12 : a0 ≤ 937
      ·rw [if_pos c12] at H
       have c12b0 : decide (a0 ≤ 937) = true := decide_eq_true c12
       clear c12
       have H' := Aside0.mk H
       clear H
       go_wp2
       go_meet
       case rel => exact ⟨_, (true), (by first | rfl | (simp; done) | (simp [*]; done)), H', ⟨by have := HJ1.out; first | omega | exact Nat.le_refl _⟩, by repeat (first | exact Drawn0.refl _ | apply Drawn0.step)⟩
      ·rw [if_neg c12] at H
       have c12b0 : decide (a0 ≤ 937) = false := decide_eq_false c12
       clear c12
       by_cases c13 : a0 ≥ 1040
       ·rw [if_pos c13] at H
        have c13b0 : decide (1040 ≤ a0) = true := decide_eq_true c13
        clear c13
        have H' := Aside0.mk H
        clear H
        go_wp2
        go_meet
        case rel => exact ⟨_, (decide (a0 ≤ 1071)), (by first | rfl | (simp; done) | (simp [*]; done)), H', ⟨by have := HJ1.out; first | omega | exact Nat.le_refl _⟩, by repeat (first | exact Drawn0.refl _ | apply Drawn0.step)⟩
       ·rw [if_neg c13] at H
        have c13b0 : decide (1040 ≤ a0) = false := decide_eq_false c13
        clear c13
        have H' := Aside0.mk H
        clear H
        go_wp2
        go_meet
        case rel => exact ⟨_, (false), (by first | rfl | (simp; done) | (simp [*]; done)), H', ⟨by have := HJ1.out; first | omega | exact Nat.le_refl _⟩, by repeat (first | exact Drawn0.refl _ | apply Drawn0.step)⟩
     ·rw [if_neg c11] at H
      have c11b0 : decide (913 ≤ a0) = false := decide_eq_false c11
      clear c11
      (first | rw [c11b0] | (simp only [i64_w, i32_w]; rw [c11b0]) | skip)
      by_cases c14 : a0 ≥ 1040
      ·rw [if_pos c14] at H
       have c14b0 : decide (1040 ≤ a0) = true := decide_eq_true c14
       clear c14
       have H' := Aside0.mk H
       clear H
       go_wp2
       go_meet
       case rel => exact ⟨_, (decide (a0 ≤ 1071)), (by first | rfl | (simp; done) | (simp [*]; done)), H', ⟨by have := HJ1.out; first | omega | exact Nat.le_refl _⟩, by repeat (first | exact Drawn0.refl _ | apply Drawn0.step)⟩
      ·rw [if_neg c14] at H
       have c14b0 : decide (1040 ≤ a0) = false := decide_eq_false c14
       clear c14
       have H' := Aside0.mk H
       clear H
       go_wp2
       go_meet
       case rel => exact ⟨_, (false), (by first | rfl | (simp; done) | (simp [*]; done)), H', ⟨by have := HJ1.out; first | omega | exact Nat.le_refl _⟩, by repeat (first | exact Drawn0.refl _ | apply Drawn0.step)⟩
    case rest =>
     clear HC10
     try clear c1
     try clear c2
     try clear p2
     try clear c3
     try clear c3b0
     try clear c4
     try clear c4b0
     try clear c5
     try clear c5b0
     try clear c6
     try clear c6b0
     try clear p6
     try clear c7
     try clear c7b0
     try clear c8
     try clear c8b0
     try clear c9
     try clear c11
     try clear c11b0
     try clear c12
     try clear c12b0
     try clear c13
     try clear c13b0
     try clear c14
     try clear c14b0
     try clear p2
     obtain ⟨kq, x24_9, rfl, HA, HJ9, ⟨mc9, rfl⟩⟩ := hcut
     cases kq with
     | zero => exact absurd HA.out (by simp [mapsheetsref06_Fold.j1])
     | succ kj9 =>
      have H := HA.out
      clear HA
      simp only [mapsheetsref06_Fold.j1] at H
      by_cases c15 : x24_9 = true
      ·subst c15
       have H1 : (some (wrap64 (a0 + 32))) = some r := by rw [if_pos rfl] at H; exact H
       clear H
       have H := H1
       clear H1
       obtain rfl := Option.some.inj H
       go_wp2
       go_ret
       exact ⟨by first | rfl | (simp; done) | (simp [*]; done), by repeat (first | exact Drawn0.refl _ | apply Drawn0.step)⟩
      ·replace c15 := Bool.eq_false_iff.mpr c15
       subst c15
       have H1 : (if a0 ≥ 1024 then (mapsheetsref06_Fold.j2 kj9 a0 (decide (a0 ≤ 1039))) else (mapsheetsref06_Fold.j2 kj9 a0 false)) = some r := by rw [if_neg (show ¬ (false = true) by decide)] at H; exact H
       clear H
       have H := H1
       clear H1
       have HC16 := Aside0.mk H
       clear H
       go_upto_region 5 with (fail)
       go_cut [41] (fun v41 wc => ∃ (kq : Nat) (x41_15 : Bool), v41 = .bool x41_15 ∧ Aside0 (mapsheetsref06_Fold.j2 kq a0 x41_15 = some r) ∧ Aside0 (kq ≤ kj9) ∧ Drawn0 w wc)
       case first =>
        have H := HC16.out
        clear HC16
        by_cases c17 : a0 ≥ 1024
        ·rw [if_pos c17] at H
         have c17b0 : decide (1024 ≤ a0) = true := decide_eq_true c17
         clear c17
         (first | rw [c17b0] | (simp only [i64_w, i32_w]; rw [c17b0]) | skip)
         have H' := Aside0.mk H
         clear H
         go_wp2
         go_meet
         case rel => exact ⟨_, (decide (a0 ≤ 1039)), (by first | rfl | (simp; done) | (simp [*]; done)), H', ⟨by have := HJ1.out; have := HJ9.out; first | omega | exact Nat.le_refl _⟩, by repeat (first | exact Drawn0.refl _ | apply Drawn0.step)⟩
        ·rw [if_neg c17] at H
         have c17b0 : decide (1024 ≤ a0) = false := decide_eq_false c17
         clear c17
         (first | rw [c17b0] | (simp only [i64_w, i32_w]; rw [c17b0]) | skip)
         have H' := Aside0.mk H
         clear H
         go_wp2
         go_meet
         case rel => exact ⟨_, (false), (by first | rfl | (simp; done) | (simp [*]; done)), H', ⟨by have := HJ1.out; have := HJ9.out; first | omega | exact Nat.le_refl _⟩, by repeat (first | exact Drawn0.refl _ | apply Drawn0.step)⟩
       case rest =>
        clear HC16
        try clear c1
        try clear c2
        try clear p2
        try clear c3
        try clear c3b0
        try clear c4
        try clear c4b0
        try clear c5
        try clear c5b0
        try clear c6
        try clear c6b0
        try clear p6
        try clear c7
        try clear c7b0
        try clear c8
        try clear c8b0
        try clear c9
        try clear c11
        try clear c11b0
        try clear c12
        try clear c12b0
        try clear c13
        try clear c13b0
        try clear c14
        try clear c14b0
        try clear c15
        try clear c17
        try clear c17b0
        try clear p2
        try clear p6
        obtain ⟨kq, x41_15, rfl, HA, HJ15, ⟨mc15, rfl⟩⟩ := hcut
        cases kq with
        | zero => exact absurd HA.out (by simp [mapsheetsref06_Fold.j2])
        | succ kj15 =>
         have H := HA.out
         clear HA
         simp only [mapsheetsref06_Fold.j2] at H
         by_cases c18 : x41_15 = true
         ·subst c18
          have H1 : (some (wrap64 (a0 + 80))) = some r := by rw [if_pos rfl] at H; exact H
          clear H
          have H := H1
          clear H1
          obtain rfl := Option.some.inj H
          go_wp2
          go_ret
          exact ⟨by first | rfl | (simp; done) | (simp [*]; done), by repeat (first | exact Drawn0.refl _ | apply Drawn0.step)⟩
         ·replace c18 := Bool.eq_false_iff.mpr c18
          subst c18
          have H1 : (if (Int.tmod a0 2) = 0 then (if a0 ≥ 256 then (if a0 ≤ 310 then (mapsheetsref06_Fold.j3 kj15 a0 true) else (if a0 ≥ 330 then (mapsheetsref06_Fold.j3 kj15 a0 (decide (a0 ≤ 374))) else (mapsheetsref06_Fold.j3 kj15 a0 false))) else (if a0 ≥ 330 then (mapsheetsref06_Fold.j3 kj15 a0 (decide (a0 ≤ 374))) else (mapsheetsref06_Fold.j3 kj15 a0 false))) else (mapsheetsref06_Fold.j3 kj15 a0 false)) = some r := by rw [if_neg (show ¬ (false = true) by decide)] at H; exact H
          clear H
          have H := H1
          clear H1
          have HC19 := Aside0.mk H
          clear H
          go_upto_region 7 with (fail)
          go_cut [50] (fun v50 wc => ∃ (kq : Nat) (x50_18 : Bool), v50 = .bool x50_18 ∧ Aside0 (mapsheetsref06_Fold.j3 kq a0 x50_18 = some r) ∧ Aside0 (kq ≤ kj15) ∧ Drawn0 w wc)
          case first =>
           have H := HC19.out
           clear HC19
           by_cases c20 : (Int.tmod a0 2) = 0
           ·rw [if_pos c20] at H
            have c20b0 : ((Int.tmod a0 2) == 0) = true := beq_iff_eq.mpr c20
            have c20b1 : ((Int.tmod a0 2) != 0) = false := bne_eq_false_iff_eq.mpr c20
            clear c20
            (first | rw [c20b0] | (simp only [i64_w, i32_w]; rw [c20b0]) | skip)
            by_cases c21 : a0 ≥ 256
            ·rw [if_pos c21] at H
             have c21b0 : decide (256 ≤ a0) = true := decide_eq_true c21
             clear c21
             by_cases c22 : a0 ≤ 310
             ·rw [if_pos c22] at H
              have c22b0 : decide (a0 ≤ 310) = true := decide_eq_true c22
              clear c22
              have H' := Aside0.mk H
              clear H
              go_wp2
              go_meet
              case rel => exact ⟨_, (true), (by first | rfl | (simp; done) | (simp [*]; done)), H', ⟨by have := HJ1.out; have := HJ9.out; have := HJ15.out; first | omega | exact Nat.le_refl _⟩, by repeat (first | exact Drawn0.refl _ | apply Drawn0.step)⟩
             ·rw [if_neg c22] at H
              have c22b0 : decide (a0 ≤ 310) = false := decide_eq_false c22
              clear c22
              by_cases c23 : a0 ≥ 330
              ·rw [if_pos c23] at H
               have c23b0 : decide (330 ≤ a0) = true := decide_eq_true c23
               clear c23
               have H' := Aside0.mk H
               clear H
               go_wp2
               go_meet
               case rel => exact ⟨_, (decide (a0 ≤ 374)), (by first | rfl | (simp; done) | (simp [*]; done)), H', ⟨by have := HJ1.out; have := HJ9.out; have := HJ15.out; first | omega | exact Nat.le_refl _⟩, by repeat (first | exact Drawn0.refl _ | apply Drawn0.step)⟩
              ·rw [if_neg c23] at H
               have c23b0 : decide (330 ≤ a0) = false := decide_eq_false c23
               clear c23
               have H' := Aside0.mk H
               clear H
               go_wp2
               go_meet
               case rel => exact ⟨_, (false), (by first | rfl | (simp; done) | (simp [*]; done)), H', ⟨by have := HJ1.out; have := HJ9.out; have := HJ15.out; first | omega | exact Nat.le_refl _⟩, by repeat (first | exact Drawn0.refl _ | apply Drawn0.step)⟩
            ·rw [if_neg c21] at H
             have c21b0 : decide (256 ≤ a0) = false := decide_eq_false c21
             clear c21
             by_cases c24 : a0 ≥ 330
             ·rw [if_pos c24] at H
              have c24b0 : decide (330 ≤ a0) = true := decide_eq_true c24
              clear c24
              have H' := Aside0.mk H
              clear H
              go_wp2
              go_meet
              case rel => exact ⟨_, (decide (a0 ≤ 374)), (by first | rfl | (simp; done) | (simp [*]; done)), H', ⟨by have := HJ1.out; have := HJ9.out; have := HJ15.out; first | omega | exact Nat.le_refl _⟩, by repeat (first | exact Drawn0.refl _ | apply Drawn0.step)⟩
             ·rw [if_neg c24] at H
              have c24b0 : decide (330 ≤ a0) = false := decide_eq_false c24
              clear c24
              have H' := Aside0.mk H
              clear H
              go_wp2
              go_meet
              case rel => exact ⟨_, (false), (by first | rfl | (simp; done) | (simp [*]; done)), H', ⟨by have := HJ1.out; have := HJ9.out; have := HJ15.out; first | omega | exact Nat.le_refl _⟩, by repeat (first | exact Drawn0.refl _ | apply Drawn0.step)⟩
           ·rw [if_neg c20] at H
            have c20b0 : ((Int.tmod a0 2) == 0) = false := beq_eq_false_iff_ne.mpr c20
            have c20b1 : ((Int.tmod a0 2) != 0) = true := bne_iff_ne.mpr c20
            (first | rw [c20b0] | (simp only [i64_w, i32_w]; rw [c20b0]) | skip)
            have H' := Aside0.mk H
            clear H
            go_wp2
            go_meet
            case rel => exact ⟨_, (false), (by first | rfl | (simp; done) | (simp [*]; done)), H', ⟨by have := HJ1.out; have := HJ9.out; have := HJ15.out; first | omega | exact Nat.le_refl _⟩, by repeat (first | exact Drawn0.refl _ | apply Drawn0.step)⟩
          case rest =>
           clear HC19
           try clear c1
           try clear c2
           try clear p2
           try clear c3
           try clear c3b0
           try clear c4
           try clear c4b0
           try clear c5
           try clear c5b0
           try clear c6
           try clear c6b0
           try clear p6
           try clear c7
           try clear c7b0
           try clear c8
           try clear c8b0
           try clear c9
           try clear c11
           try clear c11b0
           try clear c12
           try clear c12b0
           try clear c13
           try clear c13b0
           try clear c14
           try clear c14b0
           try clear c15
           try clear c17
           try clear c17b0
           try clear c18
           try clear c20
           try clear c20b0
           try clear c20b1
           try clear c21
           try clear c21b0
           try clear c22
           try clear c22b0
           try clear c23
           try clear c23b0
           try clear c24
           try clear c24b0
           try clear p2
           try clear p6
           obtain ⟨kq, x50_18, rfl, HA, HJ18, ⟨mc18, rfl⟩⟩ := hcut
           cases kq with
           | zero => exact absurd HA.out (by simp [mapsheetsref06_Fold.j3])
           | succ kj18 =>
            have H := HA.out
            clear HA
            simp only [mapsheetsref06_Fold.j3] at H
            by_cases c25 : x50_18 = true
            ·subst c25
             have H1 : (some (wrap64 (a0 + 1))) = some r := by rw [if_pos rfl] at H; exact H
             clear H
             have H := H1
             clear H1
             obtain rfl := Option.some.inj H
             go_wp2
             go_ret
             exact ⟨by first | rfl | (simp; done) | (simp [*]; done), by repeat (first | exact Drawn0.refl _ | apply Drawn0.step)⟩
            ·replace c25 := Bool.eq_false_iff.mpr c25
             subst c25
             have H1 : (if (Int.tmod a0 2) = 1 then (if a0 ≥ 313 then (if a0 ≤ 327 then (mapsheetsref06_Fold.j4 kj18 a0 true) else (if a0 ≥ 377 then (mapsheetsref06_Fold.j4 kj18 a0 (decide (a0 ≤ 381))) else (mapsheetsref06_Fold.j4 kj18 a0 false))) else (if a0 ≥ 377 then (mapsheetsref06_Fold.j4 kj18 a0 (decide (a0 ≤ 381))) else (mapsheetsref06_Fold.j4 kj18 a0 false))) else (mapsheetsref06_Fold.j4 kj18 a0 false)) = some r := by rw [if_neg (show ¬ (false = true) by decide)] at H; exact H
             clear H
             have H := H1
             clear H1
             have HC26 := Aside0.mk H
             clear H
             go_upto_region 9 with (fail)
             go_cut [72] (fun v72 wc => ∃ (kq : Nat) (x72_25 : Bool), v72 = .bool x72_25 ∧ Aside0 (mapsheetsref06_Fold.j4 kq a0 x72_25 = some r) ∧ Aside0 (kq ≤ kj18) ∧ Drawn0 w wc)
             case first =>
              have H := HC26.out
              clear HC26
              by_cases c27 : (Int.tmod a0 2) = 1
              ·rw [if_pos c27] at H
               have c27b0 : ((Int.tmod a0 2) == 1) = true := beq_iff_eq.mpr c27
               have c27b1 : ((Int.tmod a0 2) != 1) = false := bne_eq_false_iff_eq.mpr c27
               clear c27
               (first | rw [c27b0] | (simp only [i64_w, i32_w]; rw [c27b0]) | skip)
               by_cases c28 : a0 ≥ 313
               ·rw [if_pos c28] at H
                have c28b0 : decide (313 ≤ a0) = true := decide_eq_true c28
                clear c28
                by_cases c29 : a0 ≤ 327
                ·rw [if_pos c29] at H
                 have c29b0 : decide (a0 ≤ 327) = true := decide_eq_true c29
                 clear c29
                 have H' := Aside0.mk H
                 clear H
                 go_wp2
                 go_meet
                 case rel => exact ⟨_, (true), (by first | rfl | (simp; done) | (simp [*]; done)), H', ⟨by have := HJ1.out; have := HJ9.out; have := HJ15.out; have := HJ18.out; first | omega | exact Nat.le_refl _⟩, by repeat (first | exact Drawn0.refl _ | apply Drawn0.step)⟩
                ·rw [if_neg c29] at H
                 have c29b0 : decide (a0 ≤ 327) = false := decide_eq_false c29
                 clear c29
                 by_cases c30 : a0 ≥ 377
                 ·rw [if_pos c30] at H
                  have c30b0 : decide (377 ≤ a0) = true := decide_eq_true c30
                  clear c30
                  have H' := Aside0.mk H
                  clear H
                  go_wp2
                  go_meet
                  case rel => exact ⟨_, (decide (a0 ≤ 381)), (by first | rfl | (simp; done) | (simp [*]; done)), H', ⟨by have := HJ1.out; have := HJ9.out; have := HJ15.out; have := HJ18.out; first | omega | exact Nat.le_refl _⟩, by repeat (first | exact Drawn0.refl _ | apply Drawn0.step)⟩
                 ·rw [if_neg c30] at H
                  have c30b0 : decide (377 ≤ a0) = false := decide_eq_false c30
                  clear c30
                  have H' := Aside0.mk H
                  clear H
                  go_wp2
                  go_meet
                  case rel => exact ⟨_, (false), (by first | rfl | (simp; done) | (simp [*]; done)), H', ⟨by have := HJ1.out; have := HJ9.out; have := HJ15.out; have := HJ18.out; first | omega | exact Nat.le_refl _⟩, by repeat (first | exact Drawn0.refl _ | apply Drawn0.step)⟩
               ·rw [if_neg c28] at H
                have c28b0 : decide (313 ≤ a0) = false := decide_eq_false c28
                clear c28
                by_cases c31 : a0 ≥ 377
                ·rw [if_pos c31] at H
                 have c31b0 : decide (377 ≤ a0) = true := decide_eq_true c31
                 clear c31
                 have H' := Aside0.mk H
                 clear H
                 go_wp2
                 go_meet
                 case rel => exact ⟨_, (decide (a0 ≤ 381)), (by first | rfl | (simp; done) | (simp [*]; done)), H', ⟨by have := HJ1.out; have := HJ9.out; have := HJ15.out; have := HJ18.out; first | omega | exact Nat.le_refl _⟩, by repeat (first | exact Drawn0.refl _ | apply Drawn0.step)⟩
                ·rw [if_neg c31] at H
                 have c31b0 : decide (377 ≤ a0) = false := decide_eq_false c31
                 clear c31
                 have H' := Aside0.mk H
                 clear H
                 go_wp2
                 go_meet
                 case rel => exact ⟨_, (false), (by first | rfl | (simp; done) | (simp [*]; done)), H', ⟨by have := HJ1.out; have := HJ9.out; have := HJ15.out; have := HJ18.out; first | omega | exact Nat.le_refl _⟩, by repeat (first | exact Drawn0.refl _ | apply Drawn0.step)⟩
              ·rw [if_neg c27] at H
               have c27b0 : ((Int.tmod a0 2) == 1) = false := beq_eq_false_iff_ne.mpr c27
               have c27b1 : ((Int.tmod a0 2) != 1) = true := bne_iff_ne.mpr c27
               (first | rw [c27b0] | (simp only [i64_w, i32_w]; rw [c27b0]) | skip)
               have H' := Aside0.mk H
               clear H
               go_wp2
               go_meet
               case rel => exact ⟨_, (false), (by first | rfl | (simp; done) | (simp [*]; done)), H', ⟨by have := HJ1.out; have := HJ9.out; have := HJ15.out; have := HJ18.out; first | omega | exact Nat.le_refl _⟩, by repeat (first | exact Drawn0.refl _ | apply Drawn0.step)⟩
             case rest =>
              clear HC26
              try clear c1
              try clear c2
              try clear p2
              try clear c3
              try clear c3b0
              try clear c4
              try clear c4b0
              try clear c5
              try clear c5b0
              try clear c6
              try clear c6b0
              try clear p6
              try clear c7
              try clear c7b0
              try clear c8
              try clear c8b0
              try clear c9
              try clear c11
              try clear c11b0
              try clear c12
              try clear c12b0
              try clear c13
              try clear c13b0
              try clear c14
              try clear c14b0
              try clear c15
              try clear c17
              try clear c17b0
              try clear c18
              try clear c20
              try clear c20b0
              try clear c20b1
              try clear c21
              try clear c21b0
              try clear c22
              try clear c22b0
              try clear c23
              try clear c23b0
              try clear c24
              try clear c24b0
              try clear c25
              try clear c27
              try clear c27b0
              try clear c27b1
              try clear c28
              try clear c28b0
              try clear c29
              try clear c29b0
              try clear c30
              try clear c30b0
              try clear c31
              try clear c31b0
              try clear p2
              try clear p6
              obtain ⟨kq, x72_25, rfl, HA, HJ25, ⟨mc25, rfl⟩⟩ := hcut
              cases kq with
              | zero => exact absurd HA.out (by simp [mapsheetsref06_Fold.j4])
              | succ kj25 =>
               have H := HA.out
               clear HA
               simp only [mapsheetsref06_Fold.j4] at H
               by_cases c32 : x72_25 = true
               ·subst c32
                have H1 : (some (wrap64 (a0 + 1))) = some r := by rw [if_pos rfl] at H; exact H
                clear H
                have H := H1
                clear H1
                obtain rfl := Option.some.inj H
                go_wp2
                go_ret
                exact ⟨by first | rfl | (simp; done) | (simp [*]; done), by repeat (first | exact Drawn0.refl _ | apply Drawn0.step)⟩
               ·replace c32 := Bool.eq_false_iff.mpr c32
                subst c32
                have H1 : (if a0 = 376 then (some 255) else (some a0)) = some r := by rw [if_neg (show ¬ (false = true) by decide)] at H; exact H
                clear H
                have H := H1
                clear H1
                by_cases c33 : a0 = 376
                ·rw [if_pos c33] at H
                 have c33b0 : (a0 == 376) = true := beq_iff_eq.mpr c33
                 have c33b1 : (a0 != 376) = false := bne_eq_false_iff_eq.mpr c33
                 clear c33
                 obtain rfl := Option.some.inj H
                 go_wp2
                 go_ret
                 exact ⟨by first | rfl | (simp; done) | (simp [*]; done), by repeat (first | exact Drawn0.refl _ | apply Drawn0.step)⟩
                ·rw [if_neg c33] at H
                 have c33b0 : (a0 == 376) = false := beq_eq_false_iff_ne.mpr c33
                 have c33b1 : (a0 != 376) = true := bne_iff_ne.mpr c33
                 obtain rfl := Option.some.inj H
                 go_wp2
                 go_ret
                 exact ⟨by first | rfl | (simp; done) | (simp [*]; done), by repeat (first | exact Drawn0.refl _ | apply Drawn0.step)⟩

/-! ### mapsheetslaw06_GlyphTables: function 6 -/
def mapsheetslaw06_GlyphTables.f (k : Nat) (a0 : Int) (a1 : Int) : Option (Bool) := (glyph_Script.f k a0).bind fun t221 => ((mapsheetsref06_Script.f k a0).bind fun t222 => (if t221 = t222 then ((glyph_Width.f k a0 a1).bind fun t223 => ((mapsheetsref06_Width.f k a0 a1).bind fun t224 => (if t223 = t224 then ((glyph_Fold.f k a0).bind fun t225 => ((mapsheetsref06_Fold.f k a0).bind fun t226 => (if t225 = t226 then ((mapsheetslaw06_awake.f k).bind fun t227 => (some t227)) else (none)))) else (none)))) else (none)))
theorem mapsheetslaw06_GlyphTables.mono : ∀ a0 a1 k, LeO (mapsheetslaw06_GlyphTables.f k a0 a1) (mapsheetslaw06_GlyphTables.f (k + 1) a0 a1) := by
 intro a0 a1 k
 unfold mapsheetslaw06_GlyphTables.f
 repeat' first
   | (with_reducible exact glyph_Fold.mono _ _)
   | (with_reducible exact glyph_Script.mono _ _)
   | (with_reducible exact glyph_Width.mono _ _ _)
   | (with_reducible exact mapsheetslaw06_awake.mono _)
   | (with_reducible exact mapsheetsref06_Fold.mono _ _)
   | (with_reducible exact mapsheetsref06_Script.mono _ _)
   | (with_reducible exact mapsheetsref06_Width.mono _ _ _)
   | (with_reducible exact LeO.refl _)
   | (with_reducible exact LeO.none _)
   | (with_reducible refine LeO.ite ?_ ?_)
   | (with_reducible refine LeO.bind ?_ (fun _ => ?_))
   | exact glyph_Fold.mono _ _
   | exact glyph_Script.mono _ _
   | exact glyph_Width.mono _ _ _
   | exact mapsheetslaw06_awake.mono _
   | exact mapsheetsref06_Fold.mono _ _
   | exact mapsheetsref06_Script.mono _ _
   | exact mapsheetsref06_Width.mono _ _ _
   | exact LeO.none _
   | refine LeO.ite ?_ ?_
   | refine LeO.bind ?_ (fun _ => ?_)
set_option maxHeartbeats 8000000 in
set_option maxRecDepth 100000 in
theorem mapsheetslaw06_GlyphTables.calls (k : Nat) (a0 : Int) (a1 : Int) (r : Bool) (w : World) (h : mapsheetslaw06_GlyphTables.f k a0 a1 = some r) :
  Calls Try.prog 6 #[.int .i64 a0, .int .i64 a1] w fun e w' => e = .returned (.bool r) ∧ Below w.heap.size w w' := by
 have HB := Aside0.mk (Below.refl w.heap.size w)
 have H : ((glyph_Script.f k a0).bind fun t221 => ((mapsheetsref06_Script.f k a0).bind fun t222 => (if t221 = t222 then ((glyph_Width.f k a0 a1).bind fun t223 => ((mapsheetsref06_Width.f k a0 a1).bind fun t224 => (if t223 = t224 then ((glyph_Fold.f k a0).bind fun t225 => ((mapsheetsref06_Fold.f k a0).bind fun t226 => (if t225 = t226 then ((mapsheetslaw06_awake.f k).bind fun t227 => (some t227)) else (none)))) else (none)))) else (none)))) = some r := h
 clear h
 replace H := Option.bind_eq_some_iff.mp H
 obtain ⟨t221, A30, H⟩ := H
 replace H : ((mapsheetsref06_Script.f k a0).bind fun t222 => (if t221 = t222 then ((glyph_Width.f k a0 a1).bind fun t223 => ((mapsheetsref06_Width.f k a0 a1).bind fun t224 => (if t223 = t224 then ((glyph_Fold.f k a0).bind fun t225 => ((mapsheetsref06_Fold.f k a0).bind fun t226 => (if t225 = t226 then ((mapsheetslaw06_awake.f k).bind fun t227 => (some t227)) else (none)))) else (none)))) else (none))) = some r := H
 have A3 := Aside0.mk A30
 clear A30
 replace H := Option.bind_eq_some_iff.mp H
 obtain ⟨t222, A40, H⟩ := H
 replace H : (if t221 = t222 then ((glyph_Width.f k a0 a1).bind fun t223 => ((mapsheetsref06_Width.f k a0 a1).bind fun t224 => (if t223 = t224 then ((glyph_Fold.f k a0).bind fun t225 => ((mapsheetsref06_Fold.f k a0).bind fun t226 => (if t225 = t226 then ((mapsheetslaw06_awake.f k).bind fun t227 => (some t227)) else (none)))) else (none)))) else (none)) = some r := H
 have A4 := Aside0.mk A40
 clear A40
 by_cases c5 : t221 = t222
 ·rw [if_pos c5] at H
  have c5b0 : (t221 == t222) = true := beq_iff_eq.mpr c5
  have c5b1 : (t221 != t222) = false := bne_eq_false_iff_eq.mpr c5
  clear c5
  replace H := Option.bind_eq_some_iff.mp H
  obtain ⟨t223, A60, H⟩ := H
  replace H : ((mapsheetsref06_Width.f k a0 a1).bind fun t224 => (if t223 = t224 then ((glyph_Fold.f k a0).bind fun t225 => ((mapsheetsref06_Fold.f k a0).bind fun t226 => (if t225 = t226 then ((mapsheetslaw06_awake.f k).bind fun t227 => (some t227)) else (none)))) else (none))) = some r := H
  have A6 := Aside0.mk A60
  clear A60
  replace H := Option.bind_eq_some_iff.mp H
  obtain ⟨t224, A70, H⟩ := H
  replace H : (if t223 = t224 then ((glyph_Fold.f k a0).bind fun t225 => ((mapsheetsref06_Fold.f k a0).bind fun t226 => (if t225 = t226 then ((mapsheetslaw06_awake.f k).bind fun t227 => (some t227)) else (none)))) else (none)) = some r := H
  have A7 := Aside0.mk A70
  clear A70
  by_cases c8 : t223 = t224
  ·rw [if_pos c8] at H
   have c8b0 : (t223 == t224) = true := beq_iff_eq.mpr c8
   have c8b1 : (t223 != t224) = false := bne_eq_false_iff_eq.mpr c8
   clear c8
   replace H := Option.bind_eq_some_iff.mp H
   obtain ⟨t225, A90, H⟩ := H
   replace H : ((mapsheetsref06_Fold.f k a0).bind fun t226 => (if t225 = t226 then ((mapsheetslaw06_awake.f k).bind fun t227 => (some t227)) else (none))) = some r := H
   have A9 := Aside0.mk A90
   clear A90
   replace H := Option.bind_eq_some_iff.mp H
   obtain ⟨t226, A100, H⟩ := H
   replace H : (if t225 = t226 then ((mapsheetslaw06_awake.f k).bind fun t227 => (some t227)) else (none)) = some r := H
   have A10 := Aside0.mk A100
   clear A100
   by_cases c11 : t225 = t226
   ·rw [if_pos c11] at H
    have c11b0 : (t225 == t226) = true := beq_iff_eq.mpr c11
    have c11b1 : (t225 != t226) = false := bne_eq_false_iff_eq.mpr c11
    clear c11
    replace H := Option.bind_eq_some_iff.mp H
    obtain ⟨t227, A120, H⟩ := H
    replace H : (some t227) = some r := H
    have A12 := Aside0.mk A120
    clear A120
    obtain rfl := Option.some.inj H
    go_enter Try.func6, Try.ntmps6
    go_wp2_with (first | ((with_reducible refine gate_callee (f := 18) rfl ?_); refine goesL_ (some 6) rfl rfl Try.func18 (by kernel_rfl) rfl #[.int .i64 a0] rfl (by (try simp only [List.map_toArray, List.map_cons, List.map_nil]); first | done | rfl | (simp only [List.length_drop, List.length_take]; rfl)) ?_; (with_reducible refine (glyph_Script.calls k a0 t221 _ A3.out).mono ?_); rintro e w13 ⟨rfl, hb⟩; refine ⟨_, rfl, ?_⟩; have n0_ := Aside0.mk (below_step (by repeat (first | (with_reducible first | exact HB.out | apply below_alloc | apply pw_below_drewN | apply below_drew1) | exact HB.out)) hb); clear HB; have HB := n0_; clear n0_; (try clear hb); (try clear hb2); (try clear hk); (try clear hi)) | ((with_reducible refine gate_callee (f := 19) rfl ?_); refine goesL_ (some 8) rfl rfl Try.func19 (by kernel_rfl) rfl #[.int .i64 a0] rfl (by (try simp only [List.map_toArray, List.map_cons, List.map_nil]); first | done | rfl | (simp only [List.length_drop, List.length_take]; rfl)) ?_; (with_reducible refine (mapsheetsref06_Script.calls k a0 t222 _ A4.out).mono ?_); rintro e w' ⟨rfl, ⟨nd, rfl⟩⟩; refine ⟨_, rfl, ?_⟩) | (go_at_call 20; (with_reducible refine (glyph_Width.calls k a0 a1 t223 _ A6.out).mono ?_); rintro e w14 ⟨rfl, hb⟩; have n0_ := Aside0.mk (below_step (by repeat (first | (with_reducible first | exact HB.out | apply below_alloc | apply pw_below_drewN | apply below_drew1) | exact HB.out)) hb); clear HB; have HB := n0_; clear n0_; (try clear hb); (try clear hb2); (try clear hk); (try clear hi)) | (go_at_call 21; (with_reducible refine (mapsheetsref06_Width.calls k a0 a1 t224 _ A7.out).mono ?_); rintro e w' ⟨rfl, ⟨nd, rfl⟩⟩) | (go_at_call 22; (with_reducible refine (glyph_Fold.calls k a0 t225 _ A9.out).mono ?_); rintro e w15 ⟨rfl, hb⟩; have n0_ := Aside0.mk (below_step (by repeat (first | (with_reducible first | exact HB.out | apply below_alloc | apply pw_below_drewN | apply below_drew1) | exact HB.out)) hb); clear HB; have HB := n0_; clear n0_; (try clear hb); (try clear hb2); (try clear hk); (try clear hi)) | (go_at_call 23; (with_reducible refine (mapsheetsref06_Fold.calls k a0 t226 _ A10.out).mono ?_); rintro e w' ⟨rfl, ⟨nd, rfl⟩⟩) | (go_at_call 15; (with_reducible refine (mapsheetslaw06_awake.calls k  t227 _ A12.out).mono ?_); rintro e w16 ⟨rfl, hb⟩; have n0_ := Aside0.mk (below_step (by repeat (first | (with_reducible first | exact HB.out | apply below_alloc | apply pw_below_drewN | apply below_drew1) | exact HB.out)) hb); clear HB; have HB := n0_; clear n0_; (try clear hb); (try clear hb2); (try clear hk); (try clear hi)))
    go_ret
    exact ⟨by first | rfl | (simp [errW_none, errW_some] <;> rfl) | (simp [*, errW_none, errW_some] <;> rfl), by repeat (first | (with_reducible first | exact HB.out | apply below_alloc | apply pw_below_drewN | apply below_drew1) | exact HB.out)⟩
   ·rw [if_neg c11] at H
    exact absurd H (by simp)
  ·rw [if_neg c8] at H
   exact absurd H (by simp)
 ·rw [if_neg c5] at H
  exact absurd H (by simp)

/-- THE ONE PURE STATEMENT of mapsheetslaw06_GlyphTables: yours. -/
def mapsheetslaw06_GlyphTables.Pure : Prop := ∀ (a0 : Int) (a1 : Int), (Lit.int .i64 a0).wf = true → (Lit.int .i64 a1).wf = true → ∃ k, mapsheetslaw06_GlyphTables.f k a0 a1 = some true
theorem mapsheetslaw06_GlyphTables.walk (P : mapsheetslaw06_GlyphTables.Pure) (a0 : Int) (a1 : Int) (w : World) (w0 : (Lit.int .i64 a0).wf = true) (w1 : (Lit.int .i64 a1).wf = true) :
  Calls Try.prog 6 #[.int .i64 a0, .int .i64 a1] w fun e w' => e = .returned (.bool true) ∧ Below w.heap.size w w' := by
 obtain ⟨k, h⟩ := P a0 a1 w0 w1
 refine (mapsheetslaw06_GlyphTables.calls k a0 a1 true w h).mono ?_
 rintro e w' ⟨rfl, hd⟩
 exact ⟨rfl, hd⟩

end Go.Proofs.Ytjhmpobnoccobaa.P
