-- Written by wip/tools/xprint.py (this session's program, over the kit's print.py) for this seat.
import Derived.Test.YtijkaeonihgcfaaPx0
import Derived.Test.YtijkaeonihgcfaaPx1
import Derived.Test.YtijkaeonihgcfaaPx3
import Derived.Test.YtijkaeonihgcfaaPx4
import Derived.Test.YtijkaeonihgcfaaPx5
import Derived.Test.YtijkaeonihgcfaaPx6
import Derived.Test.YtijkaeonihgcfaaPx7
import Derived.Test.YtijkaeonihgcfaaPx8
import Derived.Test.YtijkaeonihgcfaaPx9
namespace Go.Proofs.Ytijkaeonihgcfaa.P
open Go.RowKit Go.Proofs.YtijkaeonihgcfaaW.PrintWords Go.Proofs.YtijkaeonihgcfaaW.PrintLast Go.Proofs.YtijkaeonihgcfaaW.PrintMore
attribute [local go_sem] max2_int min2_int max_two min_two max_three min_three max_four min_four   -- for this text's walks alone
set_option linter.unusedVariables false
set_option linter.unusedSimpArgs false

/-! ### mapsheetsref06_Width: function 39 -/
def mapsheetsref06_Width.j0 : Nat → Int → Int → Bool → Option (Int)
 | 0, _, _, _ => none
 | k + 1, x0, x1, x15 => if x15 = true then (some 0) else ((mapsheetsref06_Script.f k x0).bind fun t292 => (if t292 = 5 then (some x1) else ((mapsheetsref06_Script.f k x0).bind fun t293 => (if t293 = 0 then ((mapsheetsref06_Digit.f x0).bind fun t294 => (if t294 = true then (some (wrap64 (Int.tdiv (wrap64 ((wrap64 (2 * x1)) + 2)) 3))) else (some (wrap64 (Int.tdiv (wrap64 (x1 + 1)) 2))))) else (some (wrap64 (Int.tdiv (wrap64 ((wrap64 (2 * x1)) + 2)) 3)))))))
def mapsheetsref06_Width.f (k : Nat) (a0 : Int) (a1 : Int) : Option (Int) := if a1 < 1 then (mapsheetsref06_Width.j0 k a0 a1 true) else (if a1 > 64 then (mapsheetsref06_Width.j0 k a0 a1 true) else ((mapsheetsref06_Script.f k a0).bind fun t291 => (mapsheetsref06_Width.j0 k a0 a1 (decide (t291 < 0)))))
theorem mapsheetsref06_Width.mono_l : ∀ k, (∀ y0 y1 y2, LeO (mapsheetsref06_Width.j0 k y0 y1 y2) (mapsheetsref06_Width.j0 (k + 1) y0 y1 y2))
 | 0 => fun _ _ _ r h => by simp [mapsheetsref06_Width.j0] at h
 | k + 1 => by
  have ih0 := mapsheetsref06_Width.mono_l k
  ·intro y0 y1 y2
   unfold mapsheetsref06_Width.j0
   repeat' first
   | (with_reducible exact ih0 _ _ _)
   | (with_reducible exact mapsheetsref06_Script.mono _ _)
   | (with_reducible exact LeO.refl _)
   | (with_reducible exact LeO.none _)
   | (with_reducible refine LeO.ite ?_ ?_)
   | (with_reducible refine LeO.bind ?_ (fun _ => ?_))
   | exact ih0 _ _ _
   | exact mapsheetsref06_Script.mono _ _
   | exact LeO.none _
   | refine LeO.ite ?_ ?_
   | refine LeO.bind ?_ (fun _ => ?_)
theorem mapsheetsref06_Width.mono : ∀ a0 a1 k, LeO (mapsheetsref06_Width.f k a0 a1) (mapsheetsref06_Width.f (k + 1) a0 a1) := by
 intro a0 a1 k
 have ih0 := mapsheetsref06_Width.mono_l k
 unfold mapsheetsref06_Width.f
 repeat' first
   | (with_reducible exact ih0 _ _ _)
   | (with_reducible exact mapsheetsref06_Script.mono _ _)
   | (with_reducible exact LeO.refl _)
   | (with_reducible exact LeO.none _)
   | (with_reducible refine LeO.ite ?_ ?_)
   | (with_reducible refine LeO.bind ?_ (fun _ => ?_))
   | exact ih0 _ _ _
   | exact mapsheetsref06_Script.mono _ _
   | exact LeO.none _
   | refine LeO.ite ?_ ?_
   | refine LeO.bind ?_ (fun _ => ?_)
set_option maxHeartbeats 8000000 in
set_option maxRecDepth 100000 in
theorem mapsheetsref06_Width.calls (k : Nat) (a0 : Int) (a1 : Int) (r : Int) (w : World) (h : mapsheetsref06_Width.f k a0 a1 = some r) :
  Calls Try.prog 39 #[.int .i64 a0, .int .i64 a1] w fun e w' => e = .returned (.int .i64 r) ∧ Drawn0 w w' := by
 have H : (if a1 < 1 then (mapsheetsref06_Width.j0 k a0 a1 true) else (if a1 > 64 then (mapsheetsref06_Width.j0 k a0 a1 true) else ((mapsheetsref06_Script.f k a0).bind fun t291 => (mapsheetsref06_Width.j0 k a0 a1 (decide (t291 < 0)))))) = some r := h
 clear h
 have HC3 := Aside0.mk H
 clear H
 go_enter Try.func39, Try.ntmps39
 go_upto_region 1 with (fail)
 go_cut [15] (fun v15 wc => ∃ (kq : Nat) (x15_2 : Bool), v15 = .bool x15_2 ∧ Aside0 (mapsheetsref06_Width.j0 kq a0 a1 x15_2 = some r) ∧ Aside0 (kq ≤ k) ∧ Drawn0 w wc)
 case first =>
  have H := HC3.out
  clear HC3
  by_cases c4 : a1 < 1
  ·rw [if_pos c4] at H
   have c4b0 : decide (a1 < 1) = true := decide_eq_true c4
   clear c4
   (first | rw [c4b0] | (simp only [i64_w, i32_w]; rw [c4b0]) | skip)
   have H' := Aside0.mk H
   clear H
   go_wp2
   go_meet
   case rel => exact ⟨_, (true), (by first | rfl | (simp; done) | (simp [*]; done)), H', ⟨by first | omega | exact Nat.le_refl _⟩, by repeat (first | exact Drawn0.refl _ | apply Drawn0.step)⟩
  ·rw [if_neg c4] at H
   have c4b0 : decide (a1 < 1) = false := decide_eq_false c4
   clear c4
   (first | rw [c4b0] | (simp only [i64_w, i32_w]; rw [c4b0]) | skip)
   by_cases c5 : a1 > 64
   ·rw [if_pos c5] at H
    have c5b0 : decide (64 < a1) = true := decide_eq_true c5
    clear c5
    have H' := Aside0.mk H
    clear H
    go_wp2
    go_meet
    case rel => exact ⟨_, (true), (by first | rfl | (simp; done) | (simp [*]; done)), H', ⟨by first | omega | exact Nat.le_refl _⟩, by repeat (first | exact Drawn0.refl _ | apply Drawn0.step)⟩
   ·rw [if_neg c5] at H
    have c5b0 : decide (64 < a1) = false := decide_eq_false c5
    clear c5
    replace H := Option.bind_eq_some_iff.mp H
    obtain ⟨t291, A60, H⟩ := H
    replace H : (mapsheetsref06_Width.j0 k a0 a1 (decide (t291 < 0))) = some r := H
    have A6 := Aside0.mk A60
    clear A60
    have H' := Aside0.mk H
    clear H
    go_wp2_with (first | (go_at_call 45; (with_reducible refine (mapsheetsref06_Script.calls k a0 t291 _ A6.out).mono ?_); rintro e w' ⟨rfl, ⟨nd, rfl⟩⟩))
    go_meet
    case rel => exact ⟨_, (decide (t291 < 0)), (by first | rfl | (simp; done) | (simp [*]; done)), H', ⟨by first | omega | exact Nat.le_refl _⟩, by repeat (first | exact Drawn0.refl _ | apply Drawn0.step)⟩
 case rest =>
  clear HC3
  try clear p2
  try clear c3
  try clear c4
  try clear c4b0
  try clear c5
  try clear c5b0
  obtain ⟨kq, x15_2, rfl, HA, HJ2, ⟨mc2, rfl⟩⟩ := hcut
  cases kq with
  | zero => exact absurd HA.out (by simp [mapsheetsref06_Width.j0])
  | succ kj2 =>
   have H := HA.out
   clear HA
   simp only [mapsheetsref06_Width.j0] at H
   by_cases c7 : x15_2 = true
   ·subst c7
    have H1 : (some 0) = some r := by rw [if_pos rfl] at H; exact H
    clear H
    have H := H1
    clear H1
    obtain rfl := Option.some.inj H
    go_wp2
    go_ret
    exact ⟨by first | rfl | (simp; done) | (simp [*]; done), by repeat (first | exact Drawn0.refl _ | apply Drawn0.step)⟩
   ·replace c7 := Bool.eq_false_iff.mpr c7
    subst c7
    have H1 : ((mapsheetsref06_Script.f kj2 a0).bind fun t292 => (if t292 = 5 then (some a1) else ((mapsheetsref06_Script.f kj2 a0).bind fun t293 => (if t293 = 0 then ((mapsheetsref06_Digit.f a0).bind fun t294 => (if t294 = true then (some (wrap64 (Int.tdiv (wrap64 ((wrap64 (2 * a1)) + 2)) 3))) else (some (wrap64 (Int.tdiv (wrap64 (a1 + 1)) 2))))) else (some (wrap64 (Int.tdiv (wrap64 ((wrap64 (2 * a1)) + 2)) 3))))))) = some r := by rw [if_neg (show ¬ (false = true) by decide)] at H; exact H
    clear H
    have H := H1
    clear H1
    replace H := Option.bind_eq_some_iff.mp H
    obtain ⟨t292, A80, H⟩ := H
    replace H : (if t292 = 5 then (some a1) else ((mapsheetsref06_Script.f kj2 a0).bind fun t293 => (if t293 = 0 then ((mapsheetsref06_Digit.f a0).bind fun t294 => (if t294 = true then (some (wrap64 (Int.tdiv (wrap64 ((wrap64 (2 * a1)) + 2)) 3))) else (some (wrap64 (Int.tdiv (wrap64 (a1 + 1)) 2))))) else (some (wrap64 (Int.tdiv (wrap64 ((wrap64 (2 * a1)) + 2)) 3)))))) = some r := H
    have A8 := Aside0.mk A80
    clear A80
    by_cases c9 : t292 = 5
    ·rw [if_pos c9] at H
     have c9b0 : (t292 == 5) = true := beq_iff_eq.mpr c9
     have c9b1 : (t292 != 5) = false := bne_eq_false_iff_eq.mpr c9
     clear c9
     obtain rfl := Option.some.inj H
     go_wp2_with (first | ((with_reducible refine gate_callee (f := 45) rfl ?_); refine goesL_ (some 17) rfl rfl Try.func45 (by kernel_rfl) rfl #[.int .i64 a0] rfl (by (try simp only [List.map_toArray, List.map_cons, List.map_nil]); first | done | rfl | (simp only [List.length_drop, List.length_take]; rfl)) ?_; (with_reducible refine (mapsheetsref06_Script.calls kj2 a0 t292 _ A8.out).mono ?_); rintro e w' ⟨rfl, ⟨nd, rfl⟩⟩; refine ⟨_, rfl, ?_⟩))
     go_ret
     exact ⟨by first | rfl | (simp; done) | (simp [*]; done), by repeat (first | exact Drawn0.refl _ | apply Drawn0.step)⟩
    ·rw [if_neg c9] at H
     have c9b0 : (t292 == 5) = false := beq_eq_false_iff_ne.mpr c9
     have c9b1 : (t292 != 5) = true := bne_iff_ne.mpr c9
     replace H := Option.bind_eq_some_iff.mp H
     obtain ⟨t293, A100, H⟩ := H
     replace H : (if t293 = 0 then ((mapsheetsref06_Digit.f a0).bind fun t294 => (if t294 = true then (some (wrap64 (Int.tdiv (wrap64 ((wrap64 (2 * a1)) + 2)) 3))) else (some (wrap64 (Int.tdiv (wrap64 (a1 + 1)) 2))))) else (some (wrap64 (Int.tdiv (wrap64 ((wrap64 (2 * a1)) + 2)) 3)))) = some r := H
     have A10 := Aside0.mk A100
     clear A100
     by_cases c11 : t293 = 0
     ·rw [if_pos c11] at H
      have c11b0 : (t293 == 0) = true := beq_iff_eq.mpr c11
      have c11b1 : (t293 != 0) = false := bne_eq_false_iff_eq.mpr c11
      clear c11
      replace H := Option.bind_eq_some_iff.mp H
      obtain ⟨t294, A120, H⟩ := H
      replace H : (if t294 = true then (some (wrap64 (Int.tdiv (wrap64 ((wrap64 (2 * a1)) + 2)) 3))) else (some (wrap64 (Int.tdiv (wrap64 (a1 + 1)) 2)))) = some r := H
      have A12 := Aside0.mk A120
      clear A120
      by_cases c13 : t294 = true
      ·subst c13
       have H1 : (some (wrap64 (Int.tdiv (wrap64 ((wrap64 (2 * a1)) + 2)) 3))) = some r := by rw [if_pos rfl] at H; exact H
       clear H
       have H := H1
       clear H1
       obtain rfl := Option.some.inj H
       go_wp2_with (first | ((with_reducible refine gate_callee (f := 45) rfl ?_); refine goesL_ (some 17) rfl rfl Try.func45 (by kernel_rfl) rfl #[.int .i64 a0] rfl (by (try simp only [List.map_toArray, List.map_cons, List.map_nil]); first | done | rfl | (simp only [List.length_drop, List.length_take]; rfl)) ?_; (with_reducible refine (mapsheetsref06_Script.calls kj2 a0 t292 _ A8.out).mono ?_); rintro e w' ⟨rfl, ⟨nd, rfl⟩⟩; refine ⟨_, rfl, ?_⟩) | ((with_reducible refine gate_callee (f := 45) rfl ?_); refine goesL_ (some 21) rfl rfl Try.func45 (by kernel_rfl) rfl #[.int .i64 a0] rfl (by (try simp only [List.map_toArray, List.map_cons, List.map_nil]); first | done | rfl | (simp only [List.length_drop, List.length_take]; rfl)) ?_; (with_reducible refine (mapsheetsref06_Script.calls kj2 a0 t293 _ A10.out).mono ?_); rintro e w' ⟨rfl, ⟨nd, rfl⟩⟩; refine ⟨_, rfl, ?_⟩) | (go_at_call 50; (with_reducible refine (mapsheetsref06_Digit.calls a0 true _ A12.out).mono ?_); rintro e w' ⟨rfl, ⟨nd, rfl⟩⟩))
       go_ret
       exact ⟨by first | rfl | (simp; done) | (simp [*]; done), by repeat (first | exact Drawn0.refl _ | apply Drawn0.step)⟩
      ·replace c13 := Bool.eq_false_iff.mpr c13
       subst c13
       have H1 : (some (wrap64 (Int.tdiv (wrap64 (a1 + 1)) 2))) = some r := by rw [if_neg (show ¬ (false = true) by decide)] at H; exact H
       clear H
       have H := H1
       clear H1
       obtain rfl := Option.some.inj H
       go_wp2_with (first | ((with_reducible refine gate_callee (f := 45) rfl ?_); refine goesL_ (some 17) rfl rfl Try.func45 (by kernel_rfl) rfl #[.int .i64 a0] rfl (by (try simp only [List.map_toArray, List.map_cons, List.map_nil]); first | done | rfl | (simp only [List.length_drop, List.length_take]; rfl)) ?_; (with_reducible refine (mapsheetsref06_Script.calls kj2 a0 t292 _ A8.out).mono ?_); rintro e w' ⟨rfl, ⟨nd, rfl⟩⟩; refine ⟨_, rfl, ?_⟩) | ((with_reducible refine gate_callee (f := 45) rfl ?_); refine goesL_ (some 21) rfl rfl Try.func45 (by kernel_rfl) rfl #[.int .i64 a0] rfl (by (try simp only [List.map_toArray, List.map_cons, List.map_nil]); first | done | rfl | (simp only [List.length_drop, List.length_take]; rfl)) ?_; (with_reducible refine (mapsheetsref06_Script.calls kj2 a0 t293 _ A10.out).mono ?_); rintro e w' ⟨rfl, ⟨nd, rfl⟩⟩; refine ⟨_, rfl, ?_⟩) | (go_at_call 50; (with_reducible refine (mapsheetsref06_Digit.calls a0 false _ A12.out).mono ?_); rintro e w' ⟨rfl, ⟨nd, rfl⟩⟩))
       go_ret
       exact ⟨by first | rfl | (simp; done) | (simp [*]; done), by repeat (first | exact Drawn0.refl _ | apply Drawn0.step)⟩
     ·rw [if_neg c11] at H
      have c11b0 : (t293 == 0) = false := beq_eq_false_iff_ne.mpr c11
      have c11b1 : (t293 != 0) = true := bne_iff_ne.mpr c11
      obtain rfl := Option.some.inj H
      go_wp2_with (first | ((with_reducible refine gate_callee (f := 45) rfl ?_); refine goesL_ (some 17) rfl rfl Try.func45 (by kernel_rfl) rfl #[.int .i64 a0] rfl (by (try simp only [List.map_toArray, List.map_cons, List.map_nil]); first | done | rfl | (simp only [List.length_drop, List.length_take]; rfl)) ?_; (with_reducible refine (mapsheetsref06_Script.calls kj2 a0 t292 _ A8.out).mono ?_); rintro e w' ⟨rfl, ⟨nd, rfl⟩⟩; refine ⟨_, rfl, ?_⟩) | ((with_reducible refine gate_callee (f := 45) rfl ?_); refine goesL_ (some 21) rfl rfl Try.func45 (by kernel_rfl) rfl #[.int .i64 a0] rfl (by (try simp only [List.map_toArray, List.map_cons, List.map_nil]); first | done | rfl | (simp only [List.length_drop, List.length_take]; rfl)) ?_; (with_reducible refine (mapsheetsref06_Script.calls kj2 a0 t293 _ A10.out).mono ?_); rintro e w' ⟨rfl, ⟨nd, rfl⟩⟩; refine ⟨_, rfl, ?_⟩))
      go_ret
      exact ⟨by first | rfl | (simp; done) | (simp [*]; done), by repeat (first | exact Drawn0.refl _ | apply Drawn0.step)⟩

/-! ### mapsheetsref07_Width: function 22 -/
mutual
def mapsheetsref07_Width.j0 : Nat → ByteArray → Int → Bool → Option (Int × Int)
 | 0, _, _, _ => none
 | k + 1, x0, x1, x21 => if x21 = true then (some (0, 2)) else ((mapsheetsref06_Decode.f k x0).bind fun bt296 => (mapsheetsref07_Width.l0 k x1 bt296.1 0 0))
def mapsheetsref07_Width.l0 : Nat → Int → List Int → Int → Int → Option (Int × Int)
 | 0, _, _, _, _ => none
 | k + 1, x1, x7, x9, x10 => if x10 < (x7.length : Int) then (if 0 ≤ x10 then ((mapsheetsref06_Width.f k (rd x7 x10) x1).bind fun t301 => (mapsheetsref07_Width.l0 k x1 x7 (wrap64 (x9 + t301)) (wrap64 (x10 + 1)))) else (none)) else (some (x9, 0))
end
def mapsheetsref07_Width.f (k : Nat) (a0 : ByteArray) (a1 : Int) : Option (Int × Int) := (mapsheetsref07_Check.f k a0).bind fun t295 => (if t295 = 0 then (if a1 < 1 then (mapsheetsref07_Width.j0 k a0 a1 true) else (mapsheetsref07_Width.j0 k a0 a1 (decide (a1 > 64)))) else (some (0, t295)))
theorem mapsheetsref07_Width.mono_l : ∀ k, (∀ y0 y1 y2, LeO (mapsheetsref07_Width.j0 k y0 y1 y2) (mapsheetsref07_Width.j0 (k + 1) y0 y1 y2)) ∧ (∀ y0 y1 y2 y3, LeO (mapsheetsref07_Width.l0 k y0 y1 y2 y3) (mapsheetsref07_Width.l0 (k + 1) y0 y1 y2 y3))
 | 0 => ⟨fun _ _ _ r h => by simp [mapsheetsref07_Width.j0] at h, fun _ _ _ _ r h => by simp [mapsheetsref07_Width.l0] at h⟩
 | k + 1 => by
  obtain ⟨ih0, ih1⟩ := mapsheetsref07_Width.mono_l k
  refine ⟨?_, ?_⟩
  ·intro y0 y1 y2
   unfold mapsheetsref07_Width.j0
   repeat' first
   | (with_reducible exact ih0 _ _ _)
   | (with_reducible exact ih1 _ _ _ _)
   | (with_reducible exact mapsheetsref06_Decode.mono _ _)
   | (with_reducible exact mapsheetsref06_Width.mono _ _ _)
   | (with_reducible exact mapsheetsref07_Check.mono _ _)
   | (with_reducible exact LeO.refl _)
   | (with_reducible exact LeO.none _)
   | (with_reducible refine LeO.ite ?_ ?_)
   | (with_reducible refine LeO.bind ?_ (fun _ => ?_))
   | exact ih0 _ _ _
   | exact ih1 _ _ _ _
   | exact mapsheetsref06_Decode.mono _ _
   | exact mapsheetsref06_Width.mono _ _ _
   | exact mapsheetsref07_Check.mono _ _
   | exact LeO.none _
   | refine LeO.ite ?_ ?_
   | refine LeO.bind ?_ (fun _ => ?_)
  ·intro y0 y1 y2 y3
   unfold mapsheetsref07_Width.l0
   repeat' first
   | (with_reducible exact ih0 _ _ _)
   | (with_reducible exact ih1 _ _ _ _)
   | (with_reducible exact mapsheetsref06_Decode.mono _ _)
   | (with_reducible exact mapsheetsref06_Width.mono _ _ _)
   | (with_reducible exact mapsheetsref07_Check.mono _ _)
   | (with_reducible exact LeO.refl _)
   | (with_reducible exact LeO.none _)
   | (with_reducible refine LeO.ite ?_ ?_)
   | (with_reducible refine LeO.bind ?_ (fun _ => ?_))
   | exact ih0 _ _ _
   | exact ih1 _ _ _ _
   | exact mapsheetsref06_Decode.mono _ _
   | exact mapsheetsref06_Width.mono _ _ _
   | exact mapsheetsref07_Check.mono _ _
   | exact LeO.none _
   | refine LeO.ite ?_ ?_
   | refine LeO.bind ?_ (fun _ => ?_)
theorem mapsheetsref07_Width.mono : ∀ a0 a1 k, LeO (mapsheetsref07_Width.f k a0 a1) (mapsheetsref07_Width.f (k + 1) a0 a1) := by
 intro a0 a1 k
 obtain ⟨ih0, ih1⟩ := mapsheetsref07_Width.mono_l k
 unfold mapsheetsref07_Width.f
 repeat' first
   | (with_reducible exact ih0 _ _ _)
   | (with_reducible exact ih1 _ _ _ _)
   | (with_reducible exact mapsheetsref06_Decode.mono _ _)
   | (with_reducible exact mapsheetsref06_Width.mono _ _ _)
   | (with_reducible exact mapsheetsref07_Check.mono _ _)
   | (with_reducible exact LeO.refl _)
   | (with_reducible exact LeO.none _)
   | (with_reducible refine LeO.ite ?_ ?_)
   | (with_reducible refine LeO.bind ?_ (fun _ => ?_))
   | exact ih0 _ _ _
   | exact ih1 _ _ _ _
   | exact mapsheetsref06_Decode.mono _ _
   | exact mapsheetsref06_Width.mono _ _ _
   | exact mapsheetsref07_Check.mono _ _
   | exact LeO.none _
   | refine LeO.ite ?_ ?_
   | refine LeO.bind ?_ (fun _ => ?_)
set_option maxHeartbeats 8000000 in
set_option maxRecDepth 100000 in
theorem mapsheetsref07_Width.calls (k : Nat) (a0 : ByteArray) (a1 : Int) (r1 : Int) (r2 : Int) (w : World) (h : mapsheetsref07_Width.f k a0 a1 = some (r1, r2)) :
  Calls Try.prog 22 #[.string a0, .int .i64 a1] w fun e w' => e = .returned (.tuple #[.int .i64 r1, .int .i64 r2]) ∧ Below w.heap.size w w' := by
 have HB := Aside0.mk (Below.refl w.heap.size w)
 have H : ((mapsheetsref07_Check.f k a0).bind fun t295 => (if t295 = 0 then (if a1 < 1 then (mapsheetsref07_Width.j0 k a0 a1 true) else (mapsheetsref07_Width.j0 k a0 a1 (decide (a1 > 64)))) else (some (0, t295)))) = some (r1, r2) := h
 clear h
 replace H := Option.bind_eq_some_iff.mp H
 obtain ⟨t295, A30, H⟩ := H
 replace H : (if t295 = 0 then (if a1 < 1 then (mapsheetsref07_Width.j0 k a0 a1 true) else (mapsheetsref07_Width.j0 k a0 a1 (decide (a1 > 64)))) else (some (0, t295))) = some (r1, r2) := H
 have A3 := Aside0.mk A30
 clear A30
 by_cases c4 : t295 = 0
 ·rw [if_pos c4] at H
  have c4b0 : (t295 == 0) = true := beq_iff_eq.mpr c4
  have c4b1 : (t295 != 0) = false := bne_eq_false_iff_eq.mpr c4
  clear c4
  have HC5 := Aside0.mk H
  clear H
  go_enter Try.func22, Try.ntmps22
  go_upto_region 4 with (first | ((with_reducible refine gate_callee (f := 15) rfl ?_); refine goesL_ (some 12) rfl rfl Try.func15 (by kernel_rfl) rfl #[.string a0] rfl (by (try simp only [List.map_toArray, List.map_cons, List.map_nil]); first | done | rfl | (simp only [List.length_drop, List.length_take]; rfl)) ?_; (with_reducible refine (mapsheetsref07_Check.calls k a0 t295 _ A3.out).mono ?_); rintro e w6 ⟨rfl, hb⟩; refine ⟨_, rfl, ?_⟩; have n0_ := Aside0.mk (below_step (by repeat (first | (with_reducible first | exact HB.out | apply below_alloc | apply pw_below_drewN | apply below_drew1) | exact HB.out)) hb); clear HB; have HB := n0_; clear n0_; (try clear hb); (try clear hb2); (try clear hk); (try clear hi)))
  (try simp only [Act.put, List.setIfInBounds_toArray, List.set_cons_zero, List.set_cons_succ])
  go_cut [21] (fun v21 wc => ∃ (kq : Nat) (x21_4 : Bool), v21 = .bool x21_4 ∧ Aside0 (mapsheetsref07_Width.j0 kq a0 a1 x21_4 = some (r1, r2)) ∧ Aside0 (kq ≤ k) ∧ Aside0 (Below w.heap.size w wc))
  case first =>
   have H := HC5.out
   clear HC5
   by_cases c7 : a1 < 1
   ·rw [if_pos c7] at H
    have c7b0 : decide (a1 < 1) = true := decide_eq_true c7
    clear c7
    (first | rw [c7b0] | (simp only [i64_w, i32_w]; rw [c7b0]) | skip)
    have H' := Aside0.mk H
    clear H
    go_wp2
    go_meet
    case rel => exact ⟨_, (true), (by first | rfl | (simp; done) | (simp [*]; done)), H', ⟨by first | omega | exact Nat.le_refl _⟩, ⟨by repeat (first | (with_reducible first | exact HB.out | apply below_alloc | apply pw_below_drewN | apply below_drew1) | exact HB.out)⟩⟩
   ·rw [if_neg c7] at H
    have c7b0 : decide (a1 < 1) = false := decide_eq_false c7
    clear c7
    (first | rw [c7b0] | (simp only [i64_w, i32_w]; rw [c7b0]) | skip)
    have H' := Aside0.mk H
    clear H
    go_wp2
    go_meet
    case rel => exact ⟨_, (decide (a1 > 64)), (by first | rfl | (simp; done) | (simp [*]; done)), H', ⟨by first | omega | exact Nat.le_refl _⟩, ⟨by repeat (first | (with_reducible first | exact HB.out | apply below_alloc | apply pw_below_drewN | apply below_drew1) | exact HB.out)⟩⟩
  case rest =>
   clear HC5
   try clear c1
   try clear c2
   try clear p2
   try clear c4
   try clear c4b0
   try clear c4b1
   try clear c7
   try clear c7b0
   obtain ⟨kq, x21_4, rfl, HA, HJ4, HB⟩ := hcut
   cases kq with
   | zero => exact absurd HA.out (by simp [mapsheetsref07_Width.j0])
   | succ kj4 =>
    have H := HA.out
    clear HA
    simp only [mapsheetsref07_Width.j0] at H
    by_cases c8 : x21_4 = true
    ·subst c8
     have H1 : (some (0, 2)) = some (r1, r2) := by rw [if_pos rfl] at H; exact H
     clear H
     have H := H1
     clear H1
     simp only [Option.some.injEq, Prod.mk.injEq] at H
     obtain ⟨rfl, rfl⟩ := H
     go_wp2
     go_ret2
     exact ⟨by first | rfl | (simp [errW_none, errW_some] <;> rfl) | (simp [*, errW_none, errW_some] <;> rfl), by repeat (first | (with_reducible first | exact HB.out | apply below_alloc | apply pw_below_drewN | apply below_drew1) | exact HB.out)⟩
    ·replace c8 := Bool.eq_false_iff.mpr c8
     subst c8
     have H1 : ((mapsheetsref06_Decode.f kj4 a0).bind fun bt296 => (mapsheetsref07_Width.l0 kj4 a1 bt296.1 0 0)) = some (r1, r2) := by rw [if_neg (show ¬ (false = true) by decide)] at H; exact H
     clear H
     have H := H1
     clear H1
     replace H := Option.bind_eq_some_iff.mp H
     obtain ⟨⟨t296, t297⟩, A90, H⟩ := H
     replace H : (mapsheetsref07_Width.l0 kj4 a1 t296 0 0) = some (r1, r2) := H
     have A9 := Aside0.mk A90
     clear A90
     have H' := Aside0.mk H
     clear H
     go_wp2_with (first | ((with_reducible refine gate_callee (f := 27) rfl ?_); refine goesL_ (some 24) rfl rfl Try.func27 (by kernel_rfl) rfl #[.string a0] rfl (by (try simp only [List.map_toArray, List.map_cons, List.map_nil]); first | done | rfl | (simp only [List.length_drop, List.length_take]; rfl)) ?_; (with_reducible refine (mapsheetsref06_Decode.calls kj4 a0 t296 t297 _ A9.out).mono ?_); rintro e w10 ⟨v298, rfl, ho0, hb⟩; refine ⟨_, rfl, ?_⟩; have n0_ := Aside0.mk (Kd.R_lower ho0 (below_size (by repeat (first | (with_reducible first | exact HB.out | apply below_alloc | apply pw_below_drewN | apply below_drew1) | exact HB.out)))); have n1_ := Aside0.mk (below_step (by repeat (first | (with_reducible first | exact HB.out | apply below_alloc | apply pw_below_drewN | apply below_drew1) | exact HB.out)) hb); clear HB; have HO299 := n0_; have HB := n1_; clear n0_ n1_; (try clear hb); (try clear hb2); (try clear hk); (try clear hi); (try clear ho0)))
     go_loopg [9, 10] kj4 (fun kq v9 v10 w' => ∃ (x9_2 : Int) (x10_2 : Int), v9 = .int .i64 x9_2 ∧ v10 = .int .i64 x10_2 ∧ Aside0 (mapsheetsref07_Width.l0 kq a1 t296 x9_2 x10_2 = some (r1, r2)) ∧ Aside0 (kq ≤ kj4) ∧ Aside0 (Kd.R (Kd.int .i64) 3 w' w.heap.size (fun _ => True) v298 t296) ∧ Aside0 (Below w.heap.size w w'))
     case atStart => exact ⟨(0), (0), (by first | rfl | (simp; done) | (simp [*]; done)), (by first | rfl | (simp; done) | (simp [*]; done)), H', ⟨Nat.le_refl _⟩, ⟨by (with_reducible repeat (first | apply Kd.R_alloc | apply Kd.R_drewN | apply Kd.R_drew)); exact HO299.out⟩, ⟨by repeat (first | (with_reducible first | exact HB.out | apply below_alloc | apply pw_below_drewN | apply below_drew1) | exact HB.out)⟩⟩
     case round =>
      clear H'
      try clear c1
      try clear c2
      try clear p2
      try clear c4
      try clear c4b0
      try clear c4b1
      try clear c7
      try clear c7b0
      try clear c8
      try clear p2
      obtain ⟨x9_2, x10_2, rfl, rfl, HA, HK2, HO_7, HB⟩ := hrel
      cases gk with
      | zero => exact absurd HA.out (by simp [mapsheetsref07_Width.l0])
      | succ k2 =>
       have H := HA.out
       clear HA
       simp only [mapsheetsref07_Width.l0] at H
       by_cases c11 : x10_2 < (t296.length : Int)
       ·rw [if_pos c11] at H
        have c11b0 : decide (x10_2 < (t296.length : Int)) = true := decide_eq_true c11
        clear c11
        by_cases c12 : 0 ≤ x10_2
        ·rw [if_pos c12] at H
         have c12b0 : decide (0 ≤ x10_2) = true := decide_eq_true c12
         clear c12
         replace H := Option.bind_eq_some_iff.mp H
         obtain ⟨t301, A130, H⟩ := H
         replace H : (mapsheetsref07_Width.l0 k2 a1 t296 (wrap64 (x9_2 + t301)) (wrap64 (x10_2 + 1))) = some (r1, r2) := H
         have A13 := Aside0.mk A130
         clear A130
         have H' := Aside0.mk H
         clear H
         obtain ⟨Ao14, co14, eo14⟩ := Kd.R_slice HO_7.out
         subst eo14
         have p300 : 0 ≤ (x10_2 : Int) := of_decide_eq_true (by first | (with_reducible assumption) | assumption)
         have q300 : x10_2 < (t296.length : Int) := of_decide_eq_true (by first | (with_reducible assumption) | assumption)
         obtain ⟨ad300, e300, hx300_0⟩ := Kd.at_int (Kd.R_reads' HO_7.out).2.2 x10_2 p300 q300
         cases e300
         replace p300 := eq_true p300
         replace q300 := eq_true q300
         go_wp2_with (first | ((with_reducible refine gate_callee (f := 39) rfl ?_); refine goesL_ (some 39) rfl rfl Try.func39 (by kernel_rfl) rfl #[.int .i64 (rd t296 x10_2), .int .i64 a1] rfl (by (try simp only [List.map_toArray, List.map_cons, List.map_nil]); first | done | rfl | (simp only [List.length_drop, List.length_take]; rfl)) ?_; (with_reducible refine (mapsheetsref06_Width.calls k2 (rd t296 x10_2) a1 t301 _ A13.out).mono ?_); rintro e w' ⟨rfl, ⟨nd, rfl⟩⟩; refine ⟨_, rfl, ?_⟩))
         go_roundg k2
         case measure => have := HJ4.out; have := HK2.out; omega
         case rel => exact ⟨(wrap64 (x9_2 + t301)), (wrap64 (x10_2 + 1)), (by first | rfl | (simp; done) | (simp [*]; done)), (by first | rfl | (simp; done) | (simp [*]; done)), H', ⟨by have := HJ4.out; have := HK2.out; omega⟩, ⟨by (with_reducible repeat (first | apply Kd.R_alloc | apply Kd.R_drewN | apply Kd.R_drew)); exact HO_7.out⟩, ⟨by repeat (first | (with_reducible first | exact HB.out | apply below_alloc | apply pw_below_drewN | apply below_drew1) | exact HB.out)⟩⟩
        ·rw [if_neg c12] at H
         exact absurd H (by simp)
       ·rw [if_neg c11] at H
        have c11b0 : decide (x10_2 < (t296.length : Int)) = false := decide_eq_false c11
        clear c11
        simp only [Option.some.injEq, Prod.mk.injEq] at H
        obtain ⟨rfl, rfl⟩ := H
        obtain ⟨Ao15, co15, eo15⟩ := Kd.R_slice HO_7.out
        subst eo15
        go_wp2
        go_ret2
        exact ⟨by first | rfl | (simp [errW_none, errW_some] <;> rfl) | (simp [*, errW_none, errW_some] <;> rfl), by repeat (first | (with_reducible first | exact HB.out | apply below_alloc | apply pw_below_drewN | apply below_drew1) | exact HB.out)⟩
 ·rw [if_neg c4] at H
  have c4b0 : (t295 == 0) = false := beq_eq_false_iff_ne.mpr c4
  have c4b1 : (t295 != 0) = true := bne_iff_ne.mpr c4
  simp only [Option.some.injEq, Prod.mk.injEq] at H
  obtain ⟨rfl, rfl⟩ := H
  go_enter Try.func22, Try.ntmps22
  go_wp2_with (first | ((with_reducible refine gate_callee (f := 15) rfl ?_); refine goesL_ (some 12) rfl rfl Try.func15 (by kernel_rfl) rfl #[.string a0] rfl (by (try simp only [List.map_toArray, List.map_cons, List.map_nil]); first | done | rfl | (simp only [List.length_drop, List.length_take]; rfl)) ?_; (with_reducible refine (mapsheetsref07_Check.calls k a0 t295 _ A3.out).mono ?_); rintro e w16 ⟨rfl, hb⟩; refine ⟨_, rfl, ?_⟩; have n0_ := Aside0.mk (below_step (by repeat (first | (with_reducible first | exact HB.out | apply below_alloc | apply pw_below_drewN | apply below_drew1) | exact HB.out)) hb); clear HB; have HB := n0_; clear n0_; (try clear hb); (try clear hb2); (try clear hk); (try clear hi)))
  go_ret2
  exact ⟨by first | rfl | (simp [errW_none, errW_some] <;> rfl) | (simp [*, errW_none, errW_some] <;> rfl), by repeat (first | (with_reducible first | exact HB.out | apply below_alloc | apply pw_below_drewN | apply below_drew1) | exact HB.out)⟩

/-! ### mapsheetslaw07_NameWidths: function 7 -/
def mapsheetslaw07_NameWidths.f (k : Nat) (a0 : ByteArray) (a1 : Int) : Option (Bool) := (mapsheetslaw07_light.f a0 (⟨#[]⟩ : ByteArray) (⟨#[]⟩ : ByteArray)).bind fun t302 => (if t302 = true then ((name_Width.f k a0 a1).bind fun bt303 => ((mapsheetsref07_Width.f k a0 a1).bind fun bt305 => ((mapsheetslaw07_awake.f k).bind fun t307 => (if t307 = true then (if bt303.1 = bt305.1 then (some (bt303.2 == bt305.2)) else (none)) else (none))))) else ((mapsheetslaw07_awake.f k).bind fun t308 => (some t308)))
theorem mapsheetslaw07_NameWidths.mono : ∀ a0 a1 k, LeO (mapsheetslaw07_NameWidths.f k a0 a1) (mapsheetslaw07_NameWidths.f (k + 1) a0 a1) := by
 intro a0 a1 k
 unfold mapsheetslaw07_NameWidths.f
 repeat' first
   | (with_reducible exact mapsheetslaw07_awake.mono _)
   | (with_reducible exact mapsheetsref07_Width.mono _ _ _)
   | (with_reducible exact name_Width.mono _ _ _)
   | (with_reducible exact LeO.refl _)
   | (with_reducible exact LeO.none _)
   | (with_reducible refine LeO.ite ?_ ?_)
   | (with_reducible refine LeO.bind ?_ (fun _ => ?_))
   | exact mapsheetslaw07_awake.mono _
   | exact mapsheetsref07_Width.mono _ _ _
   | exact name_Width.mono _ _ _
   | exact LeO.none _
   | refine LeO.ite ?_ ?_
   | refine LeO.bind ?_ (fun _ => ?_)
set_option maxHeartbeats 8000000 in
set_option maxRecDepth 100000 in
theorem mapsheetslaw07_NameWidths.calls (k : Nat) (a0 : ByteArray) (a1 : Int) (r : Bool) (w : World) (hml : ML w) (h : mapsheetslaw07_NameWidths.f k a0 a1 = some r) :
  Calls Try.prog 7 #[.string a0, .int .i64 a1] w fun e w' => e = .returned (.bool r) ∧ Below w.heap.size w w' := by
 have HM := Aside0.mk hml
 clear hml
 have HB := Aside0.mk (Below.refl w.heap.size w)
 have H : ((mapsheetslaw07_light.f a0 (⟨#[]⟩ : ByteArray) (⟨#[]⟩ : ByteArray)).bind fun t302 => (if t302 = true then ((name_Width.f k a0 a1).bind fun bt303 => ((mapsheetsref07_Width.f k a0 a1).bind fun bt305 => ((mapsheetslaw07_awake.f k).bind fun t307 => (if t307 = true then (if bt303.1 = bt305.1 then (some (bt303.2 == bt305.2)) else (none)) else (none))))) else ((mapsheetslaw07_awake.f k).bind fun t308 => (some t308)))) = some r := h
 clear h
 replace H := Option.bind_eq_some_iff.mp H
 obtain ⟨t302, A30, H⟩ := H
 replace H : (if t302 = true then ((name_Width.f k a0 a1).bind fun bt303 => ((mapsheetsref07_Width.f k a0 a1).bind fun bt305 => ((mapsheetslaw07_awake.f k).bind fun t307 => (if t307 = true then (if bt303.1 = bt305.1 then (some (bt303.2 == bt305.2)) else (none)) else (none))))) else ((mapsheetslaw07_awake.f k).bind fun t308 => (some t308))) = some r := H
 have A3 := Aside0.mk A30
 clear A30
 by_cases c4 : t302 = true
 ·subst c4
  have H1 : ((name_Width.f k a0 a1).bind fun bt303 => ((mapsheetsref07_Width.f k a0 a1).bind fun bt305 => ((mapsheetslaw07_awake.f k).bind fun t307 => (if t307 = true then (if bt303.1 = bt305.1 then (some (bt303.2 == bt305.2)) else (none)) else (none))))) = some r := by rw [if_pos rfl] at H; exact H
  clear H
  have H := H1
  clear H1
  replace H := Option.bind_eq_some_iff.mp H
  obtain ⟨⟨t303, t304⟩, A50, H⟩ := H
  replace H : ((mapsheetsref07_Width.f k a0 a1).bind fun bt305 => ((mapsheetslaw07_awake.f k).bind fun t307 => (if t307 = true then (if t303 = bt305.1 then (some (t304 == bt305.2)) else (none)) else (none)))) = some r := H
  have A5 := Aside0.mk A50
  clear A50
  replace H := Option.bind_eq_some_iff.mp H
  obtain ⟨⟨t305, t306⟩, A60, H⟩ := H
  replace H : ((mapsheetslaw07_awake.f k).bind fun t307 => (if t307 = true then (if t303 = t305 then (some (t304 == t306)) else (none)) else (none))) = some r := H
  have A6 := Aside0.mk A60
  clear A60
  replace H := Option.bind_eq_some_iff.mp H
  obtain ⟨t307, A70, H⟩ := H
  replace H : (if t307 = true then (if t303 = t305 then (some (t304 == t306)) else (none)) else (none)) = some r := H
  have A7 := Aside0.mk A70
  clear A70
  by_cases c8 : t307 = true
  ·subst c8
   have H1 : (if t303 = t305 then (some (t304 == t306)) else (none)) = some r := by rw [if_pos rfl] at H; exact H
   clear H
   have H := H1
   clear H1
   by_cases c9 : t303 = t305
   ·rw [if_pos c9] at H
    have c9b0 : (t303 == t305) = true := beq_iff_eq.mpr c9
    have c9b1 : (t303 != t305) = false := bne_eq_false_iff_eq.mpr c9
    clear c9
    obtain rfl := Option.some.inj H
    go_enter Try.func7, Try.ntmps7
    go_wp2_with (first | ((with_reducible refine gate_callee (f := 10) rfl ?_); refine goesL_ (some 10) rfl rfl Try.func10 (by kernel_rfl) rfl #[.string a0, .string (⟨#[]⟩ : ByteArray), .string (⟨#[]⟩ : ByteArray)] rfl (by (try simp only [List.map_toArray, List.map_cons, List.map_nil]); first | done | rfl | (simp only [List.length_drop, List.length_take]; rfl)) ?_; (with_reducible refine (mapsheetslaw07_light.calls a0 (⟨#[]⟩ : ByteArray) (⟨#[]⟩ : ByteArray) true _ A3.out).mono ?_); rintro e w' ⟨rfl, ⟨nd, rfl⟩⟩; refine ⟨_, rfl, ?_⟩) | ((with_reducible refine gate_callee (f := 21) rfl ?_); refine goesL_ (some 16) rfl rfl Try.func21 (by kernel_rfl) rfl #[.string a0, .int .i64 a1] rfl (by (try simp only [List.map_toArray, List.map_cons, List.map_nil]); first | done | rfl | (simp only [List.length_drop, List.length_take]; rfl)) ?_; (with_reducible refine (name_Width.calls k a0 a1 t303 t304 _ (ML.below HM.out (by repeat (first | (with_reducible first | exact HB.out | apply below_alloc | apply pw_below_drewN | apply below_drew1) | exact HB.out))) A5.out).mono ?_); rintro e w10 ⟨rfl, hb⟩; refine ⟨_, rfl, ?_⟩; have n0_ := Aside0.mk (below_step (by repeat (first | (with_reducible first | exact HB.out | apply below_alloc | apply pw_below_drewN | apply below_drew1) | exact HB.out)) hb); clear HB; have HB := n0_; clear n0_; (try clear hb); (try clear hb2); (try clear hk); (try clear hi)) | ((with_reducible refine gate_callee (f := 22) rfl ?_); refine goesL_ (some 22) rfl rfl Try.func22 (by kernel_rfl) rfl #[.string a0, .int .i64 a1] rfl (by (try simp only [List.map_toArray, List.map_cons, List.map_nil]); first | done | rfl | (simp only [List.length_drop, List.length_take]; rfl)) ?_; (with_reducible refine (mapsheetsref07_Width.calls k a0 a1 t305 t306 _ A6.out).mono ?_); rintro e w11 ⟨rfl, hb⟩; refine ⟨_, rfl, ?_⟩; have n0_ := Aside0.mk (below_step (by repeat (first | (with_reducible first | exact HB.out | apply below_alloc | apply pw_below_drewN | apply below_drew1) | exact HB.out)) hb); clear HB; have HB := n0_; clear n0_; (try clear hb); (try clear hb2); (try clear hk); (try clear hi)) | ((with_reducible refine gate_callee (f := 11) rfl ?_); refine goesL_ (some 25) rfl rfl Try.func11 (by kernel_rfl) rfl #[] rfl (by (try simp only [List.map_toArray, List.map_cons, List.map_nil]); first | done | rfl | (simp only [List.length_drop, List.length_take]; rfl)) ?_; (with_reducible refine (mapsheetslaw07_awake.calls k  true _ (ML.below HM.out (by repeat (first | (with_reducible first | exact HB.out | apply below_alloc | apply pw_below_drewN | apply below_drew1) | exact HB.out))) A7.out).mono ?_); rintro e w12 ⟨rfl, hb⟩; refine ⟨_, rfl, ?_⟩; have n0_ := Aside0.mk (below_step (by repeat (first | (with_reducible first | exact HB.out | apply below_alloc | apply pw_below_drewN | apply below_drew1) | exact HB.out)) hb); clear HB; have HB := n0_; clear n0_; (try clear hb); (try clear hb2); (try clear hk); (try clear hi)))
    go_ret
    exact ⟨by first | rfl | (simp [errW_none, errW_some] <;> rfl) | (simp [*, errW_none, errW_some] <;> rfl), by repeat (first | (with_reducible first | exact HB.out | apply below_alloc | apply pw_below_drewN | apply below_drew1) | exact HB.out)⟩
   ·rw [if_neg c9] at H
    exact absurd H (by simp)
  ·replace c8 := Bool.eq_false_iff.mpr c8
   subst c8
   have H1 : (none) = some r := by rw [if_neg (show ¬ (false = true) by decide)] at H; exact H
   clear H
   have H := H1
   clear H1
   exact absurd H (by simp)
 ·replace c4 := Bool.eq_false_iff.mpr c4
  subst c4
  have H1 : ((mapsheetslaw07_awake.f k).bind fun t308 => (some t308)) = some r := by rw [if_neg (show ¬ (false = true) by decide)] at H; exact H
  clear H
  have H := H1
  clear H1
  replace H := Option.bind_eq_some_iff.mp H
  obtain ⟨t308, A130, H⟩ := H
  replace H : (some t308) = some r := H
  have A13 := Aside0.mk A130
  clear A130
  obtain rfl := Option.some.inj H
  go_enter Try.func7, Try.ntmps7
  go_wp2_with (first | ((with_reducible refine gate_callee (f := 10) rfl ?_); refine goesL_ (some 10) rfl rfl Try.func10 (by kernel_rfl) rfl #[.string a0, .string (⟨#[]⟩ : ByteArray), .string (⟨#[]⟩ : ByteArray)] rfl (by (try simp only [List.map_toArray, List.map_cons, List.map_nil]); first | done | rfl | (simp only [List.length_drop, List.length_take]; rfl)) ?_; (with_reducible refine (mapsheetslaw07_light.calls a0 (⟨#[]⟩ : ByteArray) (⟨#[]⟩ : ByteArray) false _ A3.out).mono ?_); rintro e w' ⟨rfl, ⟨nd, rfl⟩⟩; refine ⟨_, rfl, ?_⟩) | ((with_reducible refine gate_callee (f := 11) rfl ?_); refine goesL_ (some 12) rfl rfl Try.func11 (by kernel_rfl) rfl #[] rfl (by (try simp only [List.map_toArray, List.map_cons, List.map_nil]); first | done | rfl | (simp only [List.length_drop, List.length_take]; rfl)) ?_; (with_reducible refine (mapsheetslaw07_awake.calls k  t308 _ (ML.below HM.out (by repeat (first | (with_reducible first | exact HB.out | apply below_alloc | apply pw_below_drewN | apply below_drew1) | exact HB.out))) A13.out).mono ?_); rintro e w14 ⟨rfl, hb⟩; refine ⟨_, rfl, ?_⟩; have n0_ := Aside0.mk (below_step (by repeat (first | (with_reducible first | exact HB.out | apply below_alloc | apply pw_below_drewN | apply below_drew1) | exact HB.out)) hb); clear HB; have HB := n0_; clear n0_; (try clear hb); (try clear hb2); (try clear hk); (try clear hi)))
  go_ret
  exact ⟨by first | rfl | (simp [errW_none, errW_some] <;> rfl) | (simp [*, errW_none, errW_some] <;> rfl), by repeat (first | (with_reducible first | exact HB.out | apply below_alloc | apply pw_below_drewN | apply below_drew1) | exact HB.out)⟩

/-- THE ONE PURE STATEMENT of mapsheetslaw07_NameWidths: yours. -/
def mapsheetslaw07_NameWidths.Pure : Prop := ∀ (a0 : ByteArray) (a1 : Int), a0.size ≤ 140737488351232 → (Lit.int .i64 a1).wf = true → ∃ k, mapsheetslaw07_NameWidths.f k a0 a1 = some true
theorem mapsheetslaw07_NameWidths.walk (P : mapsheetslaw07_NameWidths.Pure) (a0 : ByteArray) (a1 : Int) (w : World) (w0 : a0.size ≤ 140737488351232) (w1 : (Lit.int .i64 a1).wf = true) (hml : ML w) :
  Calls Try.prog 7 #[.string a0, .int .i64 a1] w fun e w' => e = .returned (.bool true) ∧ Below w.heap.size w w' := by
 obtain ⟨k, h⟩ := P a0 a1 w0 w1
 refine (mapsheetslaw07_NameWidths.calls k a0 a1 true w hml h).mono ?_
 rintro e w' ⟨rfl, hd⟩
 exact ⟨rfl, hd⟩

end Go.Proofs.Ytijkaeonihgcfaa.P
