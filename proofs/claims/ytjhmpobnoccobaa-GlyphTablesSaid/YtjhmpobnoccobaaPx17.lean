-- Written by wip/tools/xprint.py (this session's program, over the kit's print.py) for this seat.
import Derived.Test.YtjhmpobnoccobaaPx0
import Derived.Test.YtjhmpobnoccobaaPx6
import Derived.Test.YtjhmpobnoccobaaPx7
namespace Go.Proofs.Ytjhmpobnoccobaa.P
open Go.RowKit Go.Proofs.YtjhmpobnoccobaaW.PrintWords Go.Proofs.YtjhmpobnoccobaaW.PrintLast Go.Proofs.YtjhmpobnoccobaaW.PrintMore
attribute [local go_sem] max2_int min2_int max_two min_two max_three min_three max_four min_four   -- for this text's walks alone
set_option linter.unusedVariables false
set_option linter.unusedSimpArgs false

/-! ### mapsheetsref06_Width: function 21 -/
def mapsheetsref06_Width.j0 : Nat → Int → Int → Bool → Option (Int)
 | 0, _, _, _ => none
 | k + 1, x0, x1, x15 => if x15 = true then (some 0) else ((mapsheetsref06_Script.f k x0).bind fun t218 => (if t218 = 5 then (some x1) else ((mapsheetsref06_Script.f k x0).bind fun t219 => (if t219 = 0 then ((mapsheetsref06_Digit.f x0).bind fun t220 => (if t220 = true then (some (wrap64 (Int.tdiv (wrap64 ((wrap64 (2 * x1)) + 2)) 3))) else (some (wrap64 (Int.tdiv (wrap64 (x1 + 1)) 2))))) else (some (wrap64 (Int.tdiv (wrap64 ((wrap64 (2 * x1)) + 2)) 3)))))))
def mapsheetsref06_Width.f (k : Nat) (a0 : Int) (a1 : Int) : Option (Int) := if a1 < 1 then (mapsheetsref06_Width.j0 k a0 a1 true) else (if a1 > 64 then (mapsheetsref06_Width.j0 k a0 a1 true) else ((mapsheetsref06_Script.f k a0).bind fun t217 => (mapsheetsref06_Width.j0 k a0 a1 (decide (t217 < 0)))))
theorem mapsheetsref06_Width.mono_l : ∀ k, (∀ y0 y1 y2, LeO (mapsheetsref06_Width.j0 k y0 y1 y2) (mapsheetsref06_Width.j0 (k + 1) y0 y1 y2))
 | 0 => fun _ _ _ r h => by simp [mapsheetsref06_Width.j0] at h
 | k + 1 => by
  have ih0 := mapsheetsref06_Width.mono_l k
  ·intro y0 y1 y2
   unfold mapsheetsref06_Width.j0
   repeat' first
   | (with_reducible exact ih0 _ _ _)
   | (with_reducible exact mapsheetsref06_Script.mono _ _)
   | (with_reducible exact LeO.refl _)
   | (with_reducible exact LeO.none _)
   | (with_reducible refine LeO.ite ?_ ?_)
   | (with_reducible refine LeO.bind ?_ (fun _ => ?_))
   | exact ih0 _ _ _
   | exact mapsheetsref06_Script.mono _ _
   | exact LeO.none _
   | refine LeO.ite ?_ ?_
   | refine LeO.bind ?_ (fun _ => ?_)
theorem mapsheetsref06_Width.mono : ∀ a0 a1 k, LeO (mapsheetsref06_Width.f k a0 a1) (mapsheetsref06_Width.f (k + 1) a0 a1) := by
 intro a0 a1 k
 have ih0 := mapsheetsref06_Width.mono_l k
 unfold mapsheetsref06_Width.f
 repeat' first
   | (with_reducible exact ih0 _ _ _)
   | (with_reducible exact mapsheetsref06_Script.mono _ _)
   | (with_reducible exact LeO.refl _)
   | (with_reducible exact LeO.none _)
   | (with_reducible refine LeO.ite ?_ ?_)
   | (with_reducible refine LeO.bind ?_ (fun _ => ?_))
   | exact ih0 _ _ _
   | exact mapsheetsref06_Script.mono _ _
   | exact LeO.none _
   | refine LeO.ite ?_ ?_
   | refine LeO.bind ?_ (fun _ => ?_)
set_option maxHeartbeats 8000000 in
set_option maxRecDepth 100000 in
theorem mapsheetsref06_Width.calls (k : Nat) (a0 : Int) (a1 : Int) (r : Int) (w : World) (h : mapsheetsref06_Width.f k a0 a1 = some r) :
  Calls Try.prog 21 #[.int .i64 a0, .int .i64 a1] w fun e w' => e = .returned (.int .i64 r) ∧ Drawn0 w w' := by
 have H : (if a1 < 1 then (mapsheetsref06_Width.j0 k a0 a1 true) else (if a1 > 64 then (mapsheetsref06_Width.j0 k a0 a1 true) else ((mapsheetsref06_Script.f k a0).bind fun t217 => (mapsheetsref06_Width.j0 k a0 a1 (decide (t217 < 0)))))) = some r := h
 clear h
 have HC3 := Aside0.mk H
 clear H
 go_enter Try.func21, Try.ntmps21
 go_upto_region 1 with (fail)
 go_cut [15] (fun v15 wc => ∃ (kq : Nat) (x15_2 : Bool), v15 = .bool x15_2 ∧ Aside0 (mapsheetsref06_Width.j0 kq a0 a1 x15_2 = some r) ∧ Aside0 (kq ≤ k) ∧ Drawn0 w wc)
 case first =>
  have H := HC3.out
  clear HC3
  by_cases c4 : a1 < 1
  ·rw [if_pos c4] at H
   have c4b0 : decide (a1 < 1) = true := decide_eq_true c4
   clear c4
   (first | rw [c4b0] | (simp only [i64_w, i32_w]; rw [c4b0]) | skip)
   have H' := Aside0.mk H
   clear H
   go_wp2
   go_meet
   case rel => exact ⟨_, (true), (by first | rfl | (simp; done) | (simp [*]; done)), H', ⟨by first | omega | exact Nat.le_refl _⟩, by repeat (first | exact Drawn0.refl _ | apply Drawn0.step)⟩
  ·rw [if_neg c4] at H
   have c4b0 : decide (a1 < 1) = false := decide_eq_false c4
   clear c4
   (first | rw [c4b0] | (simp only [i64_w, i32_w]; rw [c4b0]) | skip)
   by_cases c5 : a1 > 64
   ·rw [if_pos c5] at H
    have c5b0 : decide (64 < a1) = true := decide_eq_true c5
    clear c5
    have H' := Aside0.mk H
    clear H
    go_wp2
    go_meet
    case rel => exact ⟨_, (true), (by first | rfl | (simp; done) | (simp [*]; done)), H', ⟨by first | omega | exact Nat.le_refl _⟩, by repeat (first | exact Drawn0.refl _ | apply Drawn0.step)⟩
   ·rw [if_neg c5] at H
    have c5b0 : decide (64 < a1) = false := decide_eq_false c5
    clear c5
    replace H := Option.bind_eq_some_iff.mp H
    obtain ⟨t217, A60, H⟩ := H
    replace H : (mapsheetsref06_Width.j0 k a0 a1 (decide (t217 < 0))) = some r := H
    have A6 := Aside0.mk A60
    clear A60
    have H' := Aside0.mk H
    clear H
    go_wp2_with (first | (go_at_call 19; (with_reducible refine (mapsheetsref06_Script.calls k a0 t217 _ A6.out).mono ?_); rintro e w' ⟨rfl, ⟨nd, rfl⟩⟩))
    go_meet
    case rel => exact ⟨_, (decide (t217 < 0)), (by first | rfl | (simp; done) | (simp [*]; done)), H', ⟨by first | omega | exact Nat.le_refl _⟩, by repeat (first | exact Drawn0.refl _ | apply Drawn0.step)⟩
 case rest =>
  clear HC3
  try clear c2
  try clear p2
  try clear c4
  try clear c4b0
  try clear c5
  try clear c5b0
  obtain ⟨kq, x15_2, rfl, HA, HJ2, ⟨mc2, rfl⟩⟩ := hcut
  cases kq with
  | zero => exact absurd HA.out (by simp [mapsheetsref06_Width.j0])
  | succ kj2 =>
   have H := HA.out
   clear HA
   simp only [mapsheetsref06_Width.j0] at H
   by_cases c7 : x15_2 = true
   ·subst c7
    have H1 : (some 0) = some r := by rw [if_pos rfl] at H; exact H
    clear H
    have H := H1
    clear H1
    obtain rfl := Option.some.inj H
    go_wp2
    go_ret
    exact ⟨by first | rfl | (simp; done) | (simp [*]; done), by repeat (first | exact Drawn0.refl _ | apply Drawn0.step)⟩
   ·replace c7 := Bool.eq_false_iff.mpr c7
    subst c7
    have H1 : ((mapsheetsref06_Script.f kj2 a0).bind fun t218 => (if t218 = 5 then (some a1) else ((mapsheetsref06_Script.f kj2 a0).bind fun t219 => (if t219 = 0 then ((mapsheetsref06_Digit.f a0).bind fun t220 => (if t220 = true then (some (wrap64 (Int.tdiv (wrap64 ((wrap64 (2 * a1)) + 2)) 3))) else (some (wrap64 (Int.tdiv (wrap64 (a1 + 1)) 2))))) else (some (wrap64 (Int.tdiv (wrap64 ((wrap64 (2 * a1)) + 2)) 3))))))) = some r := by rw [if_neg (show ¬ (false = true) by decide)] at H; exact H
    clear H
    have H := H1
    clear H1
    replace H := Option.bind_eq_some_iff.mp H
    obtain ⟨t218, A80, H⟩ := H
    replace H : (if t218 = 5 then (some a1) else ((mapsheetsref06_Script.f kj2 a0).bind fun t219 => (if t219 = 0 then ((mapsheetsref06_Digit.f a0).bind fun t220 => (if t220 = true then (some (wrap64 (Int.tdiv (wrap64 ((wrap64 (2 * a1)) + 2)) 3))) else (some (wrap64 (Int.tdiv (wrap64 (a1 + 1)) 2))))) else (some (wrap64 (Int.tdiv (wrap64 ((wrap64 (2 * a1)) + 2)) 3)))))) = some r := H
    have A8 := Aside0.mk A80
    clear A80
    by_cases c9 : t218 = 5
    ·rw [if_pos c9] at H
     have c9b0 : (t218 == 5) = true := beq_iff_eq.mpr c9
     have c9b1 : (t218 != 5) = false := bne_eq_false_iff_eq.mpr c9
     clear c9
     obtain rfl := Option.some.inj H
     go_wp2_with (first | ((with_reducible refine gate_callee (f := 19) rfl ?_); refine goesL_ (some 17) rfl rfl Try.func19 (by kernel_rfl) rfl #[.int .i64 a0] rfl (by (try simp only [List.map_toArray, List.map_cons, List.map_nil]); first | done | rfl | (simp only [List.length_drop, List.length_take]; rfl)) ?_; (with_reducible refine (mapsheetsref06_Script.calls kj2 a0 t218 _ A8.out).mono ?_); rintro e w' ⟨rfl, ⟨nd, rfl⟩⟩; refine ⟨_, rfl, ?_⟩))
     go_ret
     exact ⟨by first | rfl | (simp; done) | (simp [*]; done), by repeat (first | exact Drawn0.refl _ | apply Drawn0.step)⟩
    ·rw [if_neg c9] at H
     have c9b0 : (t218 == 5) = false := beq_eq_false_iff_ne.mpr c9
     have c9b1 : (t218 != 5) = true := bne_iff_ne.mpr c9
     replace H := Option.bind_eq_some_iff.mp H
     obtain ⟨t219, A100, H⟩ := H
     replace H : (if t219 = 0 then ((mapsheetsref06_Digit.f a0).bind fun t220 => (if t220 = true then (some (wrap64 (Int.tdiv (wrap64 ((wrap64 (2 * a1)) + 2)) 3))) else (some (wrap64 (Int.tdiv (wrap64 (a1 + 1)) 2))))) else (some (wrap64 (Int.tdiv (wrap64 ((wrap64 (2 * a1)) + 2)) 3)))) = some r := H
     have A10 := Aside0.mk A100
     clear A100
     by_cases c11 : t219 = 0
     ·rw [if_pos c11] at H
      have c11b0 : (t219 == 0) = true := beq_iff_eq.mpr c11
      have c11b1 : (t219 != 0) = false := bne_eq_false_iff_eq.mpr c11
      clear c11
      replace H := Option.bind_eq_some_iff.mp H
      obtain ⟨t220, A120, H⟩ := H
      replace H : (if t220 = true then (some (wrap64 (Int.tdiv (wrap64 ((wrap64 (2 * a1)) + 2)) 3))) else (some (wrap64 (Int.tdiv (wrap64 (a1 + 1)) 2)))) = some r := H
      have A12 := Aside0.mk A120
      clear A120
      by_cases c13 : t220 = true
      ·subst c13
       have H1 : (some (wrap64 (Int.tdiv (wrap64 ((wrap64 (2 * a1)) + 2)) 3))) = some r := by rw [if_pos rfl] at H; exact H
       clear H
       have H := H1
       clear H1
       obtain rfl := Option.some.inj H
       go_wp2_with (first | ((with_reducible refine gate_callee (f := 19) rfl ?_); refine goesL_ (some 17) rfl rfl Try.func19 (by kernel_rfl) rfl #[.int .i64 a0] rfl (by (try simp only [List.map_toArray, List.map_cons, List.map_nil]); first | done | rfl | (simp only [List.length_drop, List.length_take]; rfl)) ?_; (with_reducible refine (mapsheetsref06_Script.calls kj2 a0 t218 _ A8.out).mono ?_); rintro e w' ⟨rfl, ⟨nd, rfl⟩⟩; refine ⟨_, rfl, ?_⟩) | ((with_reducible refine gate_callee (f := 19) rfl ?_); refine goesL_ (some 21) rfl rfl Try.func19 (by kernel_rfl) rfl #[.int .i64 a0] rfl (by (try simp only [List.map_toArray, List.map_cons, List.map_nil]); first | done | rfl | (simp only [List.length_drop, List.length_take]; rfl)) ?_; (with_reducible refine (mapsheetsref06_Script.calls kj2 a0 t219 _ A10.out).mono ?_); rintro e w' ⟨rfl, ⟨nd, rfl⟩⟩; refine ⟨_, rfl, ?_⟩) | (go_at_call 30; (with_reducible refine (mapsheetsref06_Digit.calls a0 true _ A12.out).mono ?_); rintro e w' ⟨rfl, ⟨nd, rfl⟩⟩))
       go_ret
       exact ⟨by first | rfl | (simp; done) | (simp [*]; done), by repeat (first | exact Drawn0.refl _ | apply Drawn0.step)⟩
      ·replace c13 := Bool.eq_false_iff.mpr c13
       subst c13
       have H1 : (some (wrap64 (Int.tdiv (wrap64 (a1 + 1)) 2))) = some r := by rw [if_neg (show ¬ (false = true) by decide)] at H; exact H
       clear H
       have H := H1
       clear H1
       obtain rfl := Option.some.inj H
       go_wp2_with (first | ((with_reducible refine gate_callee (f := 19) rfl ?_); refine goesL_ (some 17) rfl rfl Try.func19 (by kernel_rfl) rfl #[.int .i64 a0] rfl (by (try simp only [List.map_toArray, List.map_cons, List.map_nil]); first | done | rfl | (simp only [List.length_drop, List.length_take]; rfl)) ?_; (with_reducible refine (mapsheetsref06_Script.calls kj2 a0 t218 _ A8.out).mono ?_); rintro e w' ⟨rfl, ⟨nd, rfl⟩⟩; refine ⟨_, rfl, ?_⟩) | ((with_reducible refine gate_callee (f := 19) rfl ?_); refine goesL_ (some 21) rfl rfl Try.func19 (by kernel_rfl) rfl #[.int .i64 a0] rfl (by (try simp only [List.map_toArray, List.map_cons, List.map_nil]); first | done | rfl | (simp only [List.length_drop, List.length_take]; rfl)) ?_; (with_reducible refine (mapsheetsref06_Script.calls kj2 a0 t219 _ A10.out).mono ?_); rintro e w' ⟨rfl, ⟨nd, rfl⟩⟩; refine ⟨_, rfl, ?_⟩) | (go_at_call 30; (with_reducible refine (mapsheetsref06_Digit.calls a0 false _ A12.out).mono ?_); rintro e w' ⟨rfl, ⟨nd, rfl⟩⟩))
       go_ret
       exact ⟨by first | rfl | (simp; done) | (simp [*]; done), by repeat (first | exact Drawn0.refl _ | apply Drawn0.step)⟩
     ·rw [if_neg c11] at H
      have c11b0 : (t219 == 0) = false := beq_eq_false_iff_ne.mpr c11
      have c11b1 : (t219 != 0) = true := bne_iff_ne.mpr c11
      obtain rfl := Option.some.inj H
      go_wp2_with (first | ((with_reducible refine gate_callee (f := 19) rfl ?_); refine goesL_ (some 17) rfl rfl Try.func19 (by kernel_rfl) rfl #[.int .i64 a0] rfl (by (try simp only [List.map_toArray, List.map_cons, List.map_nil]); first | done | rfl | (simp only [List.length_drop, List.length_take]; rfl)) ?_; (with_reducible refine (mapsheetsref06_Script.calls kj2 a0 t218 _ A8.out).mono ?_); rintro e w' ⟨rfl, ⟨nd, rfl⟩⟩; refine ⟨_, rfl, ?_⟩) | ((with_reducible refine gate_callee (f := 19) rfl ?_); refine goesL_ (some 21) rfl rfl Try.func19 (by kernel_rfl) rfl #[.int .i64 a0] rfl (by (try simp only [List.map_toArray, List.map_cons, List.map_nil]); first | done | rfl | (simp only [List.length_drop, List.length_take]; rfl)) ?_; (with_reducible refine (mapsheetsref06_Script.calls kj2 a0 t219 _ A10.out).mono ?_); rintro e w' ⟨rfl, ⟨nd, rfl⟩⟩; refine ⟨_, rfl, ?_⟩))
      go_ret
      exact ⟨by first | rfl | (simp; done) | (simp [*]; done), by repeat (first | exact Drawn0.refl _ | apply Drawn0.step)⟩

end Go.Proofs.Ytjhmpobnoccobaa.P
