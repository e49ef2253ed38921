-- Written by wip/tools/xprint.py (this session's program, over the kit's print.py) for this seat.
import Derived.Test.YteojklacaecmpaaPx0
namespace Go.Proofs.Yteojklacaecmpaa.P
open Go.RowKit Go.Proofs.YteojklacaecmpaaW.PrintWords Go.Proofs.YteojklacaecmpaaW.PrintLast Go.Proofs.YteojklacaecmpaaW.PrintMore
attribute [local go_sem] max2_int min2_int max_two min_two max_three min_three max_four min_four   -- for this text's walks alone
set_option linter.unusedVariables false
set_option linter.unusedSimpArgs false

/-! ### mapsheetsref01_size: function 53 -/
def mapsheetsref01_size.f (a0 : Int) : Option (Int) := if a0 < 0 then (some (IntKind.u64.wrap (-(IntKind.u64.wrap (a0))))) else (some (IntKind.u64.wrap (a0)))
set_option maxHeartbeats 8000000 in
set_option maxRecDepth 100000 in
theorem mapsheetsref01_size.calls (a0 : Int) (r : Int) (w : World) (h : mapsheetsref01_size.f a0 = some r) :
  Calls Try.prog 53 #[.int .i64 a0] w fun e w' => e = .returned (.int .u64 r) ∧ Drawn0 w w' := by
 have H : (if a0 < 0 then (some (IntKind.u64.wrap (-(IntKind.u64.wrap (a0))))) else (some (IntKind.u64.wrap (a0)))) = some r := h
 clear h
 by_cases c2 : a0 < 0
 ·rw [if_pos c2] at H
  have c2b0 : decide (a0 < 0) = true := decide_eq_true c2
  clear c2
  obtain rfl := Option.some.inj H
  go_enter Try.func53, Try.ntmps53
  go_wp2
  go_ret
  exact ⟨by first | rfl | (simp; done) | (simp [*]; done), by repeat (first | exact Drawn0.refl _ | apply Drawn0.step)⟩
 ·rw [if_neg c2] at H
  have c2b0 : decide (a0 < 0) = false := decide_eq_false c2
  clear c2
  obtain rfl := Option.some.inj H
  go_enter Try.func53, Try.ntmps53
  go_wp2
  go_ret
  exact ⟨by first | rfl | (simp; done) | (simp [*]; done), by repeat (first | exact Drawn0.refl _ | apply Drawn0.step)⟩

/-! ### mapsheetsref01_parts: function 52 -/
def mapsheetsref01_parts.f (a0 : Int) (a1 : Int) : Option (Int × Int × Bool) := (mapsheetsref01_size.f a0).bind fun t332 => ((mapsheetsref01_size.f a1).bind fun t333 => (if t333 = 0 then (none) else ((mapsheetsref01_size.f a0).bind fun t334 => ((mapsheetsref01_size.f a1).bind fun t335 => (if t335 = 0 then (none) else (if a0 < 0 then (if a1 > 0 then (some (IntKind.u64.wrap (Int.tdiv t332 t333), Int.tmod t334 t335, true)) else (if a0 > 0 then (some (IntKind.u64.wrap (Int.tdiv t332 t333), Int.tmod t334 t335, decide (a1 < 0))) else (some (IntKind.u64.wrap (Int.tdiv t332 t333), Int.tmod t334 t335, false)))) else (if a0 > 0 then (some (IntKind.u64.wrap (Int.tdiv t332 t333), Int.tmod t334 t335, decide (a1 < 0))) else (some (IntKind.u64.wrap (Int.tdiv t332 t333), Int.tmod t334 t335, false)))))))))
set_option maxHeartbeats 8000000 in
set_option maxRecDepth 100000 in
theorem mapsheetsref01_parts.calls (a0 : Int) (a1 : Int) (r1 : Int) (r2 : Int) (r3 : Bool) (w : World) (h : mapsheetsref01_parts.f a0 a1 = some (r1, r2, r3)) :
  Calls Try.prog 52 #[.int .i64 a0, .int .i64 a1] w fun e w' => e = .returned (.tuple #[.int .u64 r1, .int .u64 r2, .bool r3]) ∧ Drawn0 w w' := by
 have H : ((mapsheetsref01_size.f a0).bind fun t332 => ((mapsheetsref01_size.f a1).bind fun t333 => (if t333 = 0 then (none) else ((mapsheetsref01_size.f a0).bind fun t334 => ((mapsheetsref01_size.f a1).bind fun t335 => (if t335 = 0 then (none) else (if a0 < 0 then (if a1 > 0 then (some (IntKind.u64.wrap (Int.tdiv t332 t333), Int.tmod t334 t335, true)) else (if a0 > 0 then (some (IntKind.u64.wrap (Int.tdiv t332 t333), Int.tmod t334 t335, decide (a1 < 0))) else (some (IntKind.u64.wrap (Int.tdiv t332 t333), Int.tmod t334 t335, false)))) else (if a0 > 0 then (some (IntKind.u64.wrap (Int.tdiv t332 t333), Int.tmod t334 t335, decide (a1 < 0))) else (some (IntKind.u64.wrap (Int.tdiv t332 t333), Int.tmod t334 t335, false)))))))))) = some (r1, r2, r3) := h
 clear h
 replace H := Option.bind_eq_some_iff.mp H
 obtain ⟨t332, A30, H⟩ := H
 replace H : ((mapsheetsref01_size.f a1).bind fun t333 => (if t333 = 0 then (none) else ((mapsheetsref01_size.f a0).bind fun t334 => ((mapsheetsref01_size.f a1).bind fun t335 => (if t335 = 0 then (none) else (if a0 < 0 then (if a1 > 0 then (some (IntKind.u64.wrap (Int.tdiv t332 t333), Int.tmod t334 t335, true)) else (if a0 > 0 then (some (IntKind.u64.wrap (Int.tdiv t332 t333), Int.tmod t334 t335, decide (a1 < 0))) else (some (IntKind.u64.wrap (Int.tdiv t332 t333), Int.tmod t334 t335, false)))) else (if a0 > 0 then (some (IntKind.u64.wrap (Int.tdiv t332 t333), Int.tmod t334 t335, decide (a1 < 0))) else (some (IntKind.u64.wrap (Int.tdiv t332 t333), Int.tmod t334 t335, false))))))))) = some (r1, r2, r3) := H
 have A3 := Aside0.mk A30
 clear A30
 replace H := Option.bind_eq_some_iff.mp H
 obtain ⟨t333, A40, H⟩ := H
 replace H : (if t333 = 0 then (none) else ((mapsheetsref01_size.f a0).bind fun t334 => ((mapsheetsref01_size.f a1).bind fun t335 => (if t335 = 0 then (none) else (if a0 < 0 then (if a1 > 0 then (some (IntKind.u64.wrap (Int.tdiv t332 t333), Int.tmod t334 t335, true)) else (if a0 > 0 then (some (IntKind.u64.wrap (Int.tdiv t332 t333), Int.tmod t334 t335, decide (a1 < 0))) else (some (IntKind.u64.wrap (Int.tdiv t332 t333), Int.tmod t334 t335, false)))) else (if a0 > 0 then (some (IntKind.u64.wrap (Int.tdiv t332 t333), Int.tmod t334 t335, decide (a1 < 0))) else (some (IntKind.u64.wrap (Int.tdiv t332 t333), Int.tmod t334 t335, false)))))))) = some (r1, r2, r3) := H
 have A4 := Aside0.mk A40
 clear A40
 by_cases c5 : t333 = 0
 ·rw [if_pos c5] at H
  exact absurd H (by simp)
 ·rw [if_neg c5] at H
  have c5b0 : (t333 == 0) = false := beq_eq_false_iff_ne.mpr c5
  have c5b1 : (t333 != 0) = true := bne_iff_ne.mpr c5
  replace H := Option.bind_eq_some_iff.mp H
  obtain ⟨t334, A60, H⟩ := H
  replace H : ((mapsheetsref01_size.f a1).bind fun t335 => (if t335 = 0 then (none) else (if a0 < 0 then (if a1 > 0 then (some (IntKind.u64.wrap (Int.tdiv t332 t333), Int.tmod t334 t335, true)) else (if a0 > 0 then (some (IntKind.u64.wrap (Int.tdiv t332 t333), Int.tmod t334 t335, decide (a1 < 0))) else (some (IntKind.u64.wrap (Int.tdiv t332 t333), Int.tmod t334 t335, false)))) else (if a0 > 0 then (some (IntKind.u64.wrap (Int.tdiv t332 t333), Int.tmod t334 t335, decide (a1 < 0))) else (some (IntKind.u64.wrap (Int.tdiv t332 t333), Int.tmod t334 t335, false)))))) = some (r1, r2, r3) := H
  have A6 := Aside0.mk A60
  clear A60
  replace H := Option.bind_eq_some_iff.mp H
  obtain ⟨t335, A70, H⟩ := H
  replace H : (if t335 = 0 then (none) else (if a0 < 0 then (if a1 > 0 then (some (IntKind.u64.wrap (Int.tdiv t332 t333), Int.tmod t334 t335, true)) else (if a0 > 0 then (some (IntKind.u64.wrap (Int.tdiv t332 t333), Int.tmod t334 t335, decide (a1 < 0))) else (some (IntKind.u64.wrap (Int.tdiv t332 t333), Int.tmod t334 t335, false)))) else (if a0 > 0 then (some (IntKind.u64.wrap (Int.tdiv t332 t333), Int.tmod t334 t335, decide (a1 < 0))) else (some (IntKind.u64.wrap (Int.tdiv t332 t333), Int.tmod t334 t335, false))))) = some (r1, r2, r3) := H
  have A7 := Aside0.mk A70
  clear A70
  by_cases c8 : t335 = 0
  ·rw [if_pos c8] at H
   exact absurd H (by simp)
  ·rw [if_neg c8] at H
   have c8b0 : (t335 == 0) = false := beq_eq_false_iff_ne.mpr c8
   have c8b1 : (t335 != 0) = true := bne_iff_ne.mpr c8
   by_cases c9 : a0 < 0
   ·rw [if_pos c9] at H
    have c9b0 : decide (a0 < 0) = true := decide_eq_true c9
    clear c9
    by_cases c10 : a1 > 0
    ·rw [if_pos c10] at H
     have c10b0 : decide (0 < a1) = true := decide_eq_true c10
     clear c10
     simp only [Option.some.injEq, Prod.mk.injEq] at H
     obtain ⟨rfl, rfl, rfl⟩ := H
     go_enter Try.func52, Try.ntmps52
     go_wp2_with (first | (go_at_call 53; (with_reducible refine (mapsheetsref01_size.calls a0 t332 _ A3.out).mono ?_); rintro e w' ⟨rfl, ⟨nd, rfl⟩⟩; (try first | exact ⟨rfl, _, World.drewN_drewN _ _ _⟩ | exact ⟨rfl, _, Eq.trans (World.drewN_drewN _ _ _) (congrArg (World.drewN _) (Nat.add_assoc _ _ _))⟩)) | (go_at_call 53; (with_reducible refine (mapsheetsref01_size.calls a1 t333 _ A4.out).mono ?_); rintro e w' ⟨rfl, ⟨nd, rfl⟩⟩; (try first | exact ⟨rfl, _, World.drewN_drewN _ _ _⟩ | exact ⟨rfl, _, Eq.trans (World.drewN_drewN _ _ _) (congrArg (World.drewN _) (Nat.add_assoc _ _ _))⟩)) | (go_at_call 53; (with_reducible refine (mapsheetsref01_size.calls a0 t334 _ A6.out).mono ?_); rintro e w' ⟨rfl, ⟨nd, rfl⟩⟩; (try first | exact ⟨rfl, _, World.drewN_drewN _ _ _⟩ | exact ⟨rfl, _, Eq.trans (World.drewN_drewN _ _ _) (congrArg (World.drewN _) (Nat.add_assoc _ _ _))⟩)) | (go_at_call 53; (with_reducible refine (mapsheetsref01_size.calls a1 t335 _ A7.out).mono ?_); rintro e w' ⟨rfl, ⟨nd, rfl⟩⟩; (try first | exact ⟨rfl, _, World.drewN_drewN _ _ _⟩ | exact ⟨rfl, _, Eq.trans (World.drewN_drewN _ _ _) (congrArg (World.drewN _) (Nat.add_assoc _ _ _))⟩)))
     repeat (go_quiet (first | (go_at_call 53; (with_reducible refine (mapsheetsref01_size.calls a0 t332 _ A3.out).mono ?_); rintro e w' ⟨rfl, ⟨nd, rfl⟩⟩; (try first | exact ⟨rfl, _, World.drewN_drewN _ _ _⟩ | exact ⟨rfl, _, Eq.trans (World.drewN_drewN _ _ _) (congrArg (World.drewN _) (Nat.add_assoc _ _ _))⟩)) | (go_at_call 53; (with_reducible refine (mapsheetsref01_size.calls a1 t333 _ A4.out).mono ?_); rintro e w' ⟨rfl, ⟨nd, rfl⟩⟩; (try first | exact ⟨rfl, _, World.drewN_drewN _ _ _⟩ | exact ⟨rfl, _, Eq.trans (World.drewN_drewN _ _ _) (congrArg (World.drewN _) (Nat.add_assoc _ _ _))⟩)) | (go_at_call 53; (with_reducible refine (mapsheetsref01_size.calls a0 t334 _ A6.out).mono ?_); rintro e w' ⟨rfl, ⟨nd, rfl⟩⟩; (try first | exact ⟨rfl, _, World.drewN_drewN _ _ _⟩ | exact ⟨rfl, _, Eq.trans (World.drewN_drewN _ _ _) (congrArg (World.drewN _) (Nat.add_assoc _ _ _))⟩)) | (go_at_call 53; (with_reducible refine (mapsheetsref01_size.calls a1 t335 _ A7.out).mono ?_); rintro e w' ⟨rfl, ⟨nd, rfl⟩⟩; (try first | exact ⟨rfl, _, World.drewN_drewN _ _ _⟩ | exact ⟨rfl, _, Eq.trans (World.drewN_drewN _ _ _) (congrArg (World.drewN _) (Nat.add_assoc _ _ _))⟩))); try go_wp2_with (first | (go_at_call 53; (with_reducible refine (mapsheetsref01_size.calls a0 t332 _ A3.out).mono ?_); rintro e w' ⟨rfl, ⟨nd, rfl⟩⟩; (try first | exact ⟨rfl, _, World.drewN_drewN _ _ _⟩ | exact ⟨rfl, _, Eq.trans (World.drewN_drewN _ _ _) (congrArg (World.drewN _) (Nat.add_assoc _ _ _))⟩)) | (go_at_call 53; (with_reducible refine (mapsheetsref01_size.calls a1 t333 _ A4.out).mono ?_); rintro e w' ⟨rfl, ⟨nd, rfl⟩⟩; (try first | exact ⟨rfl, _, World.drewN_drewN _ _ _⟩ | exact ⟨rfl, _, Eq.trans (World.drewN_drewN _ _ _) (congrArg (World.drewN _) (Nat.add_assoc _ _ _))⟩)) | (go_at_call 53; (with_reducible refine (mapsheetsref01_size.calls a0 t334 _ A6.out).mono ?_); rintro e w' ⟨rfl, ⟨nd, rfl⟩⟩; (try first | exact ⟨rfl, _, World.drewN_drewN _ _ _⟩ | exact ⟨rfl, _, Eq.trans (World.drewN_drewN _ _ _) (congrArg (World.drewN _) (Nat.add_assoc _ _ _))⟩)) | (go_at_call 53; (with_reducible refine (mapsheetsref01_size.calls a1 t335 _ A7.out).mono ?_); rintro e w' ⟨rfl, ⟨nd, rfl⟩⟩; (try first | exact ⟨rfl, _, World.drewN_drewN _ _ _⟩ | exact ⟨rfl, _, Eq.trans (World.drewN_drewN _ _ _) (congrArg (World.drewN _) (Nat.add_assoc _ _ _))⟩))))
     go_ret3
     exact ⟨by first | rfl | (simp; done) | (simp [*]; done) | ((try (have e_ := Option.some.inj (A3.out.symm.trans A4.out); subst e_)); (try (have e_ := Option.some.inj (A3.out.symm.trans A6.out); subst e_)); (try (have e_ := Option.some.inj (A3.out.symm.trans A7.out); subst e_)); (try (have e_ := Option.some.inj (A4.out.symm.trans A6.out); subst e_)); (try (have e_ := Option.some.inj (A4.out.symm.trans A7.out); subst e_)); (try (have e_ := Option.some.inj (A6.out.symm.trans A7.out); subst e_)); first | rfl | (simp; done) | (simp [*]; done)), by repeat (first | exact Drawn0.refl _ | apply Drawn0.step)⟩
    ·rw [if_neg c10] at H
     have c10b0 : decide (0 < a1) = false := decide_eq_false c10
     clear c10
     by_cases c11 : a0 > 0
     ·rw [if_pos c11] at H
      have c11b0 : decide (0 < a0) = true := decide_eq_true c11
      clear c11
      simp only [Option.some.injEq, Prod.mk.injEq] at H
      obtain ⟨rfl, rfl, rfl⟩ := H
      go_enter Try.func52, Try.ntmps52
      go_wp2_with (first | (go_at_call 53; (with_reducible refine (mapsheetsref01_size.calls a0 t332 _ A3.out).mono ?_); rintro e w' ⟨rfl, ⟨nd, rfl⟩⟩; (try first | exact ⟨rfl, _, World.drewN_drewN _ _ _⟩ | exact ⟨rfl, _, Eq.trans (World.drewN_drewN _ _ _) (congrArg (World.drewN _) (Nat.add_assoc _ _ _))⟩)) | (go_at_call 53; (with_reducible refine (mapsheetsref01_size.calls a1 t333 _ A4.out).mono ?_); rintro e w' ⟨rfl, ⟨nd, rfl⟩⟩; (try first | exact ⟨rfl, _, World.drewN_drewN _ _ _⟩ | exact ⟨rfl, _, Eq.trans (World.drewN_drewN _ _ _) (congrArg (World.drewN _) (Nat.add_assoc _ _ _))⟩)) | (go_at_call 53; (with_reducible refine (mapsheetsref01_size.calls a0 t334 _ A6.out).mono ?_); rintro e w' ⟨rfl, ⟨nd, rfl⟩⟩; (try first | exact ⟨rfl, _, World.drewN_drewN _ _ _⟩ | exact ⟨rfl, _, Eq.trans (World.drewN_drewN _ _ _) (congrArg (World.drewN _) (Nat.add_assoc _ _ _))⟩)) | (go_at_call 53; (with_reducible refine (mapsheetsref01_size.calls a1 t335 _ A7.out).mono ?_); rintro e w' ⟨rfl, ⟨nd, rfl⟩⟩; (try first | exact ⟨rfl, _, World.drewN_drewN _ _ _⟩ | exact ⟨rfl, _, Eq.trans (World.drewN_drewN _ _ _) (congrArg (World.drewN _) (Nat.add_assoc _ _ _))⟩)))
      repeat (go_quiet (first | (go_at_call 53; (with_reducible refine (mapsheetsref01_size.calls a0 t332 _ A3.out).mono ?_); rintro e w' ⟨rfl, ⟨nd, rfl⟩⟩; (try first | exact ⟨rfl, _, World.drewN_drewN _ _ _⟩ | exact ⟨rfl, _, Eq.trans (World.drewN_drewN _ _ _) (congrArg (World.drewN _) (Nat.add_assoc _ _ _))⟩)) | (go_at_call 53; (with_reducible refine (mapsheetsref01_size.calls a1 t333 _ A4.out).mono ?_); rintro e w' ⟨rfl, ⟨nd, rfl⟩⟩; (try first | exact ⟨rfl, _, World.drewN_drewN _ _ _⟩ | exact ⟨rfl, _, Eq.trans (World.drewN_drewN _ _ _) (congrArg (World.drewN _) (Nat.add_assoc _ _ _))⟩)) | (go_at_call 53; (with_reducible refine (mapsheetsref01_size.calls a0 t334 _ A6.out).mono ?_); rintro e w' ⟨rfl, ⟨nd, rfl⟩⟩; (try first | exact ⟨rfl, _, World.drewN_drewN _ _ _⟩ | exact ⟨rfl, _, Eq.trans (World.drewN_drewN _ _ _) (congrArg (World.drewN _) (Nat.add_assoc _ _ _))⟩)) | (go_at_call 53; (with_reducible refine (mapsheetsref01_size.calls a1 t335 _ A7.out).mono ?_); rintro e w' ⟨rfl, ⟨nd, rfl⟩⟩; (try first | exact ⟨rfl, _, World.drewN_drewN _ _ _⟩ | exact ⟨rfl, _, Eq.trans (World.drewN_drewN _ _ _) (congrArg (World.drewN _) (Nat.add_assoc _ _ _))⟩))); try go_wp2_with (first | (go_at_call 53; (with_reducible refine (mapsheetsref01_size.calls a0 t332 _ A3.out).mono ?_); rintro e w' ⟨rfl, ⟨nd, rfl⟩⟩; (try first | exact ⟨rfl, _, World.drewN_drewN _ _ _⟩ | exact ⟨rfl, _, Eq.trans (World.drewN_drewN _ _ _) (congrArg (World.drewN _) (Nat.add_assoc _ _ _))⟩)) | (go_at_call 53; (with_reducible refine (mapsheetsref01_size.calls a1 t333 _ A4.out).mono ?_); rintro e w' ⟨rfl, ⟨nd, rfl⟩⟩; (try first | exact ⟨rfl, _, World.drewN_drewN _ _ _⟩ | exact ⟨rfl, _, Eq.trans (World.drewN_drewN _ _ _) (congrArg (World.drewN _) (Nat.add_assoc _ _ _))⟩)) | (go_at_call 53; (with_reducible refine (mapsheetsref01_size.calls a0 t334 _ A6.out).mono ?_); rintro e w' ⟨rfl, ⟨nd, rfl⟩⟩; (try first | exact ⟨rfl, _, World.drewN_drewN _ _ _⟩ | exact ⟨rfl, _, Eq.trans (World.drewN_drewN _ _ _) (congrArg (World.drewN _) (Nat.add_assoc _ _ _))⟩)) | (go_at_call 53; (with_reducible refine (mapsheetsref01_size.calls a1 t335 _ A7.out).mono ?_); rintro e w' ⟨rfl, ⟨nd, rfl⟩⟩; (try first | exact ⟨rfl, _, World.drewN_drewN _ _ _⟩ | exact ⟨rfl, _, Eq.trans (World.drewN_drewN _ _ _) (congrArg (World.drewN _) (Nat.add_assoc _ _ _))⟩))))
      go_ret3
      exact ⟨by first | rfl | (simp; done) | (simp [*]; done) | ((try (have e_ := Option.some.inj (A3.out.symm.trans A4.out); subst e_)); (try (have e_ := Option.some.inj (A3.out.symm.trans A6.out); subst e_)); (try (have e_ := Option.some.inj (A3.out.symm.trans A7.out); subst e_)); (try (have e_ := Option.some.inj (A4.out.symm.trans A6.out); subst e_)); (try (have e_ := Option.some.inj (A4.out.symm.trans A7.out); subst e_)); (try (have e_ := Option.some.inj (A6.out.symm.trans A7.out); subst e_)); first | rfl | (simp; done) | (simp [*]; done)), by repeat (first | exact Drawn0.refl _ | apply Drawn0.step)⟩
     ·rw [if_neg c11] at H
      have c11b0 : decide (0 < a0) = false := decide_eq_false c11
      clear c11
      simp only [Option.some.injEq, Prod.mk.injEq] at H
      obtain ⟨rfl, rfl, rfl⟩ := H
      go_enter Try.func52, Try.ntmps52
      go_wp2_with (first | (go_at_call 53; (with_reducible refine (mapsheetsref01_size.calls a0 t332 _ A3.out).mono ?_); rintro e w' ⟨rfl, ⟨nd, rfl⟩⟩; (try first | exact ⟨rfl, _, World.drewN_drewN _ _ _⟩ | exact ⟨rfl, _, Eq.trans (World.drewN_drewN _ _ _) (congrArg (World.drewN _) (Nat.add_assoc _ _ _))⟩)) | (go_at_call 53; (with_reducible refine (mapsheetsref01_size.calls a1 t333 _ A4.out).mono ?_); rintro e w' ⟨rfl, ⟨nd, rfl⟩⟩; (try first | exact ⟨rfl, _, World.drewN_drewN _ _ _⟩ | exact ⟨rfl, _, Eq.trans (World.drewN_drewN _ _ _) (congrArg (World.drewN _) (Nat.add_assoc _ _ _))⟩)) | (go_at_call 53; (with_reducible refine (mapsheetsref01_size.calls a0 t334 _ A6.out).mono ?_); rintro e w' ⟨rfl, ⟨nd, rfl⟩⟩; (try first | exact ⟨rfl, _, World.drewN_drewN _ _ _⟩ | exact ⟨rfl, _, Eq.trans (World.drewN_drewN _ _ _) (congrArg (World.drewN _) (Nat.add_assoc _ _ _))⟩)) | (go_at_call 53; (with_reducible refine (mapsheetsref01_size.calls a1 t335 _ A7.out).mono ?_); rintro e w' ⟨rfl, ⟨nd, rfl⟩⟩; (try first | exact ⟨rfl, _, World.drewN_drewN _ _ _⟩ | exact ⟨rfl, _, Eq.trans (World.drewN_drewN _ _ _) (congrArg (World.drewN _) (Nat.add_assoc _ _ _))⟩)))
      repeat (go_quiet (first | (go_at_call 53; (with_reducible refine (mapsheetsref01_size.calls a0 t332 _ A3.out).mono ?_); rintro e w' ⟨rfl, ⟨nd, rfl⟩⟩; (try first | exact ⟨rfl, _, World.drewN_drewN _ _ _⟩ | exact ⟨rfl, _, Eq.trans (World.drewN_drewN _ _ _) (congrArg (World.drewN _) (Nat.add_assoc _ _ _))⟩)) | (go_at_call 53; (with_reducible refine (mapsheetsref01_size.calls a1 t333 _ A4.out).mono ?_); rintro e w' ⟨rfl, ⟨nd, rfl⟩⟩; (try first | exact ⟨rfl, _, World.drewN_drewN _ _ _⟩ | exact ⟨rfl, _, Eq.trans (World.drewN_drewN _ _ _) (congrArg (World.drewN _) (Nat.add_assoc _ _ _))⟩)) | (go_at_call 53; (with_reducible refine (mapsheetsref01_size.calls a0 t334 _ A6.out).mono ?_); rintro e w' ⟨rfl, ⟨nd, rfl⟩⟩; (try first | exact ⟨rfl, _, World.drewN_drewN _ _ _⟩ | exact ⟨rfl, _, Eq.trans (World.drewN_drewN _ _ _) (congrArg (World.drewN _) (Nat.add_assoc _ _ _))⟩)) | (go_at_call 53; (with_reducible refine (mapsheetsref01_size.calls a1 t335 _ A7.out).mono ?_); rintro e w' ⟨rfl, ⟨nd, rfl⟩⟩; (try first | exact ⟨rfl, _, World.drewN_drewN _ _ _⟩ | exact ⟨rfl, _, Eq.trans (World.drewN_drewN _ _ _) (congrArg (World.drewN _) (Nat.add_assoc _ _ _))⟩))); try go_wp2_with (first | (go_at_call 53; (with_reducible refine (mapsheetsref01_size.calls a0 t332 _ A3.out).mono ?_); rintro e w' ⟨rfl, ⟨nd, rfl⟩⟩; (try first | exact ⟨rfl, _, World.drewN_drewN _ _ _⟩ | exact ⟨rfl, _, Eq.trans (World.drewN_drewN _ _ _) (congrArg (World.drewN _) (Nat.add_assoc _ _ _))⟩)) | (go_at_call 53; (with_reducible refine (mapsheetsref01_size.calls a1 t333 _ A4.out).mono ?_); rintro e w' ⟨rfl, ⟨nd, rfl⟩⟩; (try first | exact ⟨rfl, _, World.drewN_drewN _ _ _⟩ | exact ⟨rfl, _, Eq.trans (World.drewN_drewN _ _ _) (congrArg (World.drewN _) (Nat.add_assoc _ _ _))⟩)) | (go_at_call 53; (with_reducible refine (mapsheetsref01_size.calls a0 t334 _ A6.out).mono ?_); rintro e w' ⟨rfl, ⟨nd, rfl⟩⟩; (try first | exact ⟨rfl, _, World.drewN_drewN _ _ _⟩ | exact ⟨rfl, _, Eq.trans (World.drewN_drewN _ _ _) (congrArg (World.drewN _) (Nat.add_assoc _ _ _))⟩)) | (go_at_call 53; (with_reducible refine (mapsheetsref01_size.calls a1 t335 _ A7.out).mono ?_); rintro e w' ⟨rfl, ⟨nd, rfl⟩⟩; (try first | exact ⟨rfl, _, World.drewN_drewN _ _ _⟩ | exact ⟨rfl, _, Eq.trans (World.drewN_drewN _ _ _) (congrArg (World.drewN _) (Nat.add_assoc _ _ _))⟩))))
      go_ret3
      exact ⟨by first | rfl | (simp; done) | (simp [*]; done) | ((try (have e_ := Option.some.inj (A3.out.symm.trans A4.out); subst e_)); (try (have e_ := Option.some.inj (A3.out.symm.trans A6.out); subst e_)); (try (have e_ := Option.some.inj (A3.out.symm.trans A7.out); subst e_)); (try (have e_ := Option.some.inj (A4.out.symm.trans A6.out); subst e_)); (try (have e_ := Option.some.inj (A4.out.symm.trans A7.out); subst e_)); (try (have e_ := Option.some.inj (A6.out.symm.trans A7.out); subst e_)); first | rfl | (simp; done) | (simp [*]; done)), by repeat (first | exact Drawn0.refl _ | apply Drawn0.step)⟩
   ·rw [if_neg c9] at H
    have c9b0 : decide (a0 < 0) = false := decide_eq_false c9
    clear c9
    by_cases c12 : a0 > 0
    ·rw [if_pos c12] at H
     have c12b0 : decide (0 < a0) = true := decide_eq_true c12
     clear c12
     simp only [Option.some.injEq, Prod.mk.injEq] at H
     obtain ⟨rfl, rfl, rfl⟩ := H
     go_enter Try.func52, Try.ntmps52
     go_wp2_with (first | (go_at_call 53; (with_reducible refine (mapsheetsref01_size.calls a0 t332 _ A3.out).mono ?_); rintro e w' ⟨rfl, ⟨nd, rfl⟩⟩; (try first | exact ⟨rfl, _, World.drewN_drewN _ _ _⟩ | exact ⟨rfl, _, Eq.trans (World.drewN_drewN _ _ _) (congrArg (World.drewN _) (Nat.add_assoc _ _ _))⟩)) | (go_at_call 53; (with_reducible refine (mapsheetsref01_size.calls a1 t333 _ A4.out).mono ?_); rintro e w' ⟨rfl, ⟨nd, rfl⟩⟩; (try first | exact ⟨rfl, _, World.drewN_drewN _ _ _⟩ | exact ⟨rfl, _, Eq.trans (World.drewN_drewN _ _ _) (congrArg (World.drewN _) (Nat.add_assoc _ _ _))⟩)) | (go_at_call 53; (with_reducible refine (mapsheetsref01_size.calls a0 t334 _ A6.out).mono ?_); rintro e w' ⟨rfl, ⟨nd, rfl⟩⟩; (try first | exact ⟨rfl, _, World.drewN_drewN _ _ _⟩ | exact ⟨rfl, _, Eq.trans (World.drewN_drewN _ _ _) (congrArg (World.drewN _) (Nat.add_assoc _ _ _))⟩)) | (go_at_call 53; (with_reducible refine (mapsheetsref01_size.calls a1 t335 _ A7.out).mono ?_); rintro e w' ⟨rfl, ⟨nd, rfl⟩⟩; (try first | exact ⟨rfl, _, World.drewN_drewN _ _ _⟩ | exact ⟨rfl, _, Eq.trans (World.drewN_drewN _ _ _) (congrArg (World.drewN _) (Nat.add_assoc _ _ _))⟩)))
     repeat (go_quiet (first | (go_at_call 53; (with_reducible refine (mapsheetsref01_size.calls a0 t332 _ A3.out).mono ?_); rintro e w' ⟨rfl, ⟨nd, rfl⟩⟩; (try first | exact ⟨rfl, _, World.drewN_drewN _ _ _⟩ | exact ⟨rfl, _, Eq.trans (World.drewN_drewN _ _ _) (congrArg (World.drewN _) (Nat.add_assoc _ _ _))⟩)) | (go_at_call 53; (with_reducible refine (mapsheetsref01_size.calls a1 t333 _ A4.out).mono ?_); rintro e w' ⟨rfl, ⟨nd, rfl⟩⟩; (try first | exact ⟨rfl, _, World.drewN_drewN _ _ _⟩ | exact ⟨rfl, _, Eq.trans (World.drewN_drewN _ _ _) (congrArg (World.drewN _) (Nat.add_assoc _ _ _))⟩)) | (go_at_call 53; (with_reducible refine (mapsheetsref01_size.calls a0 t334 _ A6.out).mono ?_); rintro e w' ⟨rfl, ⟨nd, rfl⟩⟩; (try first | exact ⟨rfl, _, World.drewN_drewN _ _ _⟩ | exact ⟨rfl, _, Eq.trans (World.drewN_drewN _ _ _) (congrArg (World.drewN _) (Nat.add_assoc _ _ _))⟩)) | (go_at_call 53; (with_reducible refine (mapsheetsref01_size.calls a1 t335 _ A7.out).mono ?_); rintro e w' ⟨rfl, ⟨nd, rfl⟩⟩; (try first | exact ⟨rfl, _, World.drewN_drewN _ _ _⟩ | exact ⟨rfl, _, Eq.trans (World.drewN_drewN _ _ _) (congrArg (World.drewN _) (Nat.add_assoc _ _ _))⟩))); try go_wp2_with (first | (go_at_call 53; (with_reducible refine (mapsheetsref01_size.calls a0 t332 _ A3.out).mono ?_); rintro e w' ⟨rfl, ⟨nd, rfl⟩⟩; (try first | exact ⟨rfl, _, World.drewN_drewN _ _ _⟩ | exact ⟨rfl, _, Eq.trans (World.drewN_drewN _ _ _) (congrArg (World.drewN _) (Nat.add_assoc _ _ _))⟩)) | (go_at_call 53; (with_reducible refine (mapsheetsref01_size.calls a1 t333 _ A4.out).mono ?_); rintro e w' ⟨rfl, ⟨nd, rfl⟩⟩; (try first | exact ⟨rfl, _, World.drewN_drewN _ _ _⟩ | exact ⟨rfl, _, Eq.trans (World.drewN_drewN _ _ _) (congrArg (World.drewN _) (Nat.add_assoc _ _ _))⟩)) | (go_at_call 53; (with_reducible refine (mapsheetsref01_size.calls a0 t334 _ A6.out).mono ?_); rintro e w' ⟨rfl, ⟨nd, rfl⟩⟩; (try first | exact ⟨rfl, _, World.drewN_drewN _ _ _⟩ | exact ⟨rfl, _, Eq.trans (World.drewN_drewN _ _ _) (congrArg (World.drewN _) (Nat.add_assoc _ _ _))⟩)) | (go_at_call 53; (with_reducible refine (mapsheetsref01_size.calls a1 t335 _ A7.out).mono ?_); rintro e w' ⟨rfl, ⟨nd, rfl⟩⟩; (try first | exact ⟨rfl, _, World.drewN_drewN _ _ _⟩ | exact ⟨rfl, _, Eq.trans (World.drewN_drewN _ _ _) (congrArg (World.drewN _) (Nat.add_assoc _ _ _))⟩))))
     go_ret3
     exact ⟨by first | rfl | (simp; done) | (simp [*]; done) | ((try (have e_ := Option.some.inj (A3.out.symm.trans A4.out); subst e_)); (try (have e_ := Option.some.inj (A3.out.symm.trans A6.out); subst e_)); (try (have e_ := Option.some.inj (A3.out.symm.trans A7.out); subst e_)); (try (have e_ := Option.some.inj (A4.out.symm.trans A6.out); subst e_)); (try (have e_ := Option.some.inj (A4.out.symm.trans A7.out); subst e_)); (try (have e_ := Option.some.inj (A6.out.symm.trans A7.out); subst e_)); first | rfl | (simp; done) | (simp [*]; done)), by repeat (first | exact Drawn0.refl _ | apply Drawn0.step)⟩
    ·rw [if_neg c12] at H
     have c12b0 : decide (0 < a0) = false := decide_eq_false c12
     clear c12
     simp only [Option.some.injEq, Prod.mk.injEq] at H
     obtain ⟨rfl, rfl, rfl⟩ := H
     go_enter Try.func52, Try.ntmps52
     go_wp2_with (first | (go_at_call 53; (with_reducible refine (mapsheetsref01_size.calls a0 t332 _ A3.out).mono ?_); rintro e w' ⟨rfl, ⟨nd, rfl⟩⟩; (try first | exact ⟨rfl, _, World.drewN_drewN _ _ _⟩ | exact ⟨rfl, _, Eq.trans (World.drewN_drewN _ _ _) (congrArg (World.drewN _) (Nat.add_assoc _ _ _))⟩)) | (go_at_call 53; (with_reducible refine (mapsheetsref01_size.calls a1 t333 _ A4.out).mono ?_); rintro e w' ⟨rfl, ⟨nd, rfl⟩⟩; (try first | exact ⟨rfl, _, World.drewN_drewN _ _ _⟩ | exact ⟨rfl, _, Eq.trans (World.drewN_drewN _ _ _) (congrArg (World.drewN _) (Nat.add_assoc _ _ _))⟩)) | (go_at_call 53; (with_reducible refine (mapsheetsref01_size.calls a0 t334 _ A6.out).mono ?_); rintro e w' ⟨rfl, ⟨nd, rfl⟩⟩; (try first | exact ⟨rfl, _, World.drewN_drewN _ _ _⟩ | exact ⟨rfl, _, Eq.trans (World.drewN_drewN _ _ _) (congrArg (World.drewN _) (Nat.add_assoc _ _ _))⟩)) | (go_at_call 53; (with_reducible refine (mapsheetsref01_size.calls a1 t335 _ A7.out).mono ?_); rintro e w' ⟨rfl, ⟨nd, rfl⟩⟩; (try first | exact ⟨rfl, _, World.drewN_drewN _ _ _⟩ | exact ⟨rfl, _, Eq.trans (World.drewN_drewN _ _ _) (congrArg (World.drewN _) (Nat.add_assoc _ _ _))⟩)))
     repeat (go_quiet (first | (go_at_call 53; (with_reducible refine (mapsheetsref01_size.calls a0 t332 _ A3.out).mono ?_); rintro e w' ⟨rfl, ⟨nd, rfl⟩⟩; (try first | exact ⟨rfl, _, World.drewN_drewN _ _ _⟩ | exact ⟨rfl, _, Eq.trans (World.drewN_drewN _ _ _) (congrArg (World.drewN _) (Nat.add_assoc _ _ _))⟩)) | (go_at_call 53; (with_reducible refine (mapsheetsref01_size.calls a1 t333 _ A4.out).mono ?_); rintro e w' ⟨rfl, ⟨nd, rfl⟩⟩; (try first | exact ⟨rfl, _, World.drewN_drewN _ _ _⟩ | exact ⟨rfl, _, Eq.trans (World.drewN_drewN _ _ _) (congrArg (World.drewN _) (Nat.add_assoc _ _ _))⟩)) | (go_at_call 53; (with_reducible refine (mapsheetsref01_size.calls a0 t334 _ A6.out).mono ?_); rintro e w' ⟨rfl, ⟨nd, rfl⟩⟩; (try first | exact ⟨rfl, _, World.drewN_drewN _ _ _⟩ | exact ⟨rfl, _, Eq.trans (World.drewN_drewN _ _ _) (congrArg (World.drewN _) (Nat.add_assoc _ _ _))⟩)) | (go_at_call 53; (with_reducible refine (mapsheetsref01_size.calls a1 t335 _ A7.out).mono ?_); rintro e w' ⟨rfl, ⟨nd, rfl⟩⟩; (try first | exact ⟨rfl, _, World.drewN_drewN _ _ _⟩ | exact ⟨rfl, _, Eq.trans (World.drewN_drewN _ _ _) (congrArg (World.drewN _) (Nat.add_assoc _ _ _))⟩))); try go_wp2_with (first | (go_at_call 53; (with_reducible refine (mapsheetsref01_size.calls a0 t332 _ A3.out).mono ?_); rintro e w' ⟨rfl, ⟨nd, rfl⟩⟩; (try first | exact ⟨rfl, _, World.drewN_drewN _ _ _⟩ | exact ⟨rfl, _, Eq.trans (World.drewN_drewN _ _ _) (congrArg (World.drewN _) (Nat.add_assoc _ _ _))⟩)) | (go_at_call 53; (with_reducible refine (mapsheetsref01_size.calls a1 t333 _ A4.out).mono ?_); rintro e w' ⟨rfl, ⟨nd, rfl⟩⟩; (try first | exact ⟨rfl, _, World.drewN_drewN _ _ _⟩ | exact ⟨rfl, _, Eq.trans (World.drewN_drewN _ _ _) (congrArg (World.drewN _) (Nat.add_assoc _ _ _))⟩)) | (go_at_call 53; (with_reducible refine (mapsheetsref01_size.calls a0 t334 _ A6.out).mono ?_); rintro e w' ⟨rfl, ⟨nd, rfl⟩⟩; (try first | exact ⟨rfl, _, World.drewN_drewN _ _ _⟩ | exact ⟨rfl, _, Eq.trans (World.drewN_drewN _ _ _) (congrArg (World.drewN _) (Nat.add_assoc _ _ _))⟩)) | (go_at_call 53; (with_reducible refine (mapsheetsref01_size.calls a1 t335 _ A7.out).mono ?_); rintro e w' ⟨rfl, ⟨nd, rfl⟩⟩; (try first | exact ⟨rfl, _, World.drewN_drewN _ _ _⟩ | exact ⟨rfl, _, Eq.trans (World.drewN_drewN _ _ _) (congrArg (World.drewN _) (Nat.add_assoc _ _ _))⟩))))
     go_ret3
     exact ⟨by first | rfl | (simp; done) | (simp [*]; done) | ((try (have e_ := Option.some.inj (A3.out.symm.trans A4.out); subst e_)); (try (have e_ := Option.some.inj (A3.out.symm.trans A6.out); subst e_)); (try (have e_ := Option.some.inj (A3.out.symm.trans A7.out); subst e_)); (try (have e_ := Option.some.inj (A4.out.symm.trans A6.out); subst e_)); (try (have e_ := Option.some.inj (A4.out.symm.trans A7.out); subst e_)); (try (have e_ := Option.some.inj (A6.out.symm.trans A7.out); subst e_)); first | rfl | (simp; done) | (simp [*]; done)), by repeat (first | exact Drawn0.refl _ | apply Drawn0.step)⟩

/-! ### mapsheetsref01_signed: function 54 -/
def mapsheetsref01_signed.j0 : Nat → Bool → Int → Bool → Option (Int × Int)
 | 0, _, _, _ => none
 | k + 1, x0, x1, x15 => if x15 = true then (some (0, 15)) else (if x0 = true then (some (wrap64 (IntKind.u64.wrap (-x1)), 0)) else (some (wrap64 (x1), 0)))
def mapsheetsref01_signed.f (k : Nat) (a0 : Bool) (a1 : Int) : Option (Int × Int) := if a1 > 9223372036854775808 then (mapsheetsref01_signed.j0 k a0 a1 true) else (if a1 = 9223372036854775808 then (mapsheetsref01_signed.j0 k a0 a1 (!a0)) else (mapsheetsref01_signed.j0 k a0 a1 false))
theorem mapsheetsref01_signed.mono_l : ∀ k, (∀ y0 y1 y2, LeO (mapsheetsref01_signed.j0 k y0 y1 y2) (mapsheetsref01_signed.j0 (k + 1) y0 y1 y2))
 | 0 => fun _ _ _ r h => by simp [mapsheetsref01_signed.j0] at h
 | k + 1 => by
  have ih0 := mapsheetsref01_signed.mono_l k
  ·intro y0 y1 y2
   unfold mapsheetsref01_signed.j0
   repeat' first
   | (with_reducible exact ih0 _ _ _)
   | (with_reducible exact LeO.refl _)
   | (with_reducible exact LeO.none _)
   | (with_reducible refine LeO.ite ?_ ?_)
   | (with_reducible refine LeO.bind ?_ (fun _ => ?_))
   | exact ih0 _ _ _
   | exact LeO.none _
   | refine LeO.ite ?_ ?_
   | refine LeO.bind ?_ (fun _ => ?_)
theorem mapsheetsref01_signed.mono : ∀ a0 a1 k, LeO (mapsheetsref01_signed.f k a0 a1) (mapsheetsref01_signed.f (k + 1) a0 a1) := by
 intro a0 a1 k
 have ih0 := mapsheetsref01_signed.mono_l k
 unfold mapsheetsref01_signed.f
 repeat' first
   | (with_reducible exact ih0 _ _ _)
   | (with_reducible exact LeO.refl _)
   | (with_reducible exact LeO.none _)
   | (with_reducible refine LeO.ite ?_ ?_)
   | (with_reducible refine LeO.bind ?_ (fun _ => ?_))
   | exact ih0 _ _ _
   | exact LeO.none _
   | refine LeO.ite ?_ ?_
   | refine LeO.bind ?_ (fun _ => ?_)
set_option maxHeartbeats 8000000 in
set_option maxRecDepth 100000 in
theorem mapsheetsref01_signed.calls (k : Nat) (a0 : Bool) (a1 : Int) (r1 : Int) (r2 : Int) (w : World) (h : mapsheetsref01_signed.f k a0 a1 = some (r1, r2)) :
  Calls Try.prog 54 #[.bool a0, .int .u64 a1] w fun e w' => e = .returned (.tuple #[.int .i64 r1, .int .i64 r2]) ∧ Drawn0 w w' := by
 have H : (if a1 > 9223372036854775808 then (mapsheetsref01_signed.j0 k a0 a1 true) else (if a1 = 9223372036854775808 then (mapsheetsref01_signed.j0 k a0 a1 (!a0)) else (mapsheetsref01_signed.j0 k a0 a1 false))) = some (r1, r2) := h
 clear h
 have HC3 := Aside0.mk H
 clear H
 go_enter Try.func54, Try.ntmps54
 go_upto_region 1 with (fail)
 go_cut [15] (fun v15 wc => ∃ (kq : Nat) (x15_2 : Bool), v15 = .bool x15_2 ∧ Aside0 (mapsheetsref01_signed.j0 kq a0 a1 x15_2 = some (r1, r2)) ∧ Aside0 (kq ≤ k) ∧ Drawn0 w wc)
 case first =>
  have H := HC3.out
  clear HC3
  by_cases c4 : a1 > 9223372036854775808
  ·rw [if_pos c4] at H
   have c4b0 : decide (9223372036854775808 < a1) = true := decide_eq_true c4
   clear c4
   (first | rw [c4b0] | (simp only [i64_w, i32_w]; rw [c4b0]) | skip)
   have H' := Aside0.mk H
   clear H
   go_wp2
   go_meet
   case rel => exact ⟨_, (true), (by first | rfl | (simp; done) | (simp [*]; done)), H', ⟨by first | omega | exact Nat.le_refl _⟩, by repeat (first | exact Drawn0.refl _ | apply Drawn0.step)⟩
  ·rw [if_neg c4] at H
   have c4b0 : decide (9223372036854775808 < a1) = false := decide_eq_false c4
   clear c4
   (first | rw [c4b0] | (simp only [i64_w, i32_w]; rw [c4b0]) | skip)
   by_cases c5 : a1 = 9223372036854775808
   ·rw [if_pos c5] at H
    have c5b0 : (a1 == 9223372036854775808) = true := beq_iff_eq.mpr c5
    have c5b1 : (a1 != 9223372036854775808) = false := bne_eq_false_iff_eq.mpr c5
    clear c5
    have H' := Aside0.mk H
    clear H
    go_wp2
    go_meet
    case rel => exact ⟨_, (!a0), (by first | rfl | (simp; done) | (simp [*]; done)), H', ⟨by first | omega | exact Nat.le_refl _⟩, by repeat (first | exact Drawn0.refl _ | apply Drawn0.step)⟩
   ·rw [if_neg c5] at H
    have c5b0 : (a1 == 9223372036854775808) = false := beq_eq_false_iff_ne.mpr c5
    have c5b1 : (a1 != 9223372036854775808) = true := bne_iff_ne.mpr c5
    have H' := Aside0.mk H
    clear H
    go_wp2
    go_meet
    case rel => exact ⟨_, (false), (by first | rfl | (simp; done) | (simp [*]; done)), H', ⟨by first | omega | exact Nat.le_refl _⟩, by repeat (first | exact Drawn0.refl _ | apply Drawn0.step)⟩
 case rest =>
  clear HC3
  try clear p2
  try clear c4
  try clear c4b0
  try clear c5
  try clear c5b0
  try clear c5b1
  obtain ⟨kq, x15_2, rfl, HA, HJ2, ⟨mc2, rfl⟩⟩ := hcut
  cases kq with
  | zero => exact absurd HA.out (by simp [mapsheetsref01_signed.j0])
  | succ kj2 =>
   have H := HA.out
   clear HA
   simp only [mapsheetsref01_signed.j0] at H
   by_cases c6 : x15_2 = true
   ·subst c6
    have H1 : (some (0, 15)) = some (r1, r2) := by rw [if_pos rfl] at H; exact H
    clear H
    have H := H1
    clear H1
    simp only [Option.some.injEq, Prod.mk.injEq] at H
    obtain ⟨rfl, rfl⟩ := H
    go_wp2
    go_ret2
    exact ⟨by first | rfl | (simp; done) | (simp [*]; done), by repeat (first | exact Drawn0.refl _ | apply Drawn0.step)⟩
   ·replace c6 := Bool.eq_false_iff.mpr c6
    subst c6
    have H1 : (if a0 = true then (some (wrap64 (IntKind.u64.wrap (-a1)), 0)) else (some (wrap64 (a1), 0))) = some (r1, r2) := by rw [if_neg (show ¬ (false = true) by decide)] at H; exact H
    clear H
    have H := H1
    clear H1
    by_cases c7 : a0 = true
    ·subst c7
     have H1 : (some (wrap64 (IntKind.u64.wrap (-a1)), 0)) = some (r1, r2) := by rw [if_pos rfl] at H; exact H
     clear H
     have H := H1
     clear H1
     simp only [Option.some.injEq, Prod.mk.injEq] at H
     obtain ⟨rfl, rfl⟩ := H
     go_wp2
     go_ret2
     exact ⟨by first | rfl | (simp; done) | (simp [*]; done), by repeat (first | exact Drawn0.refl _ | apply Drawn0.step)⟩
    ·replace c7 := Bool.eq_false_iff.mpr c7
     subst c7
     have H1 : (some (wrap64 (a1), 0)) = some (r1, r2) := by rw [if_neg (show ¬ (false = true) by decide)] at H; exact H
     clear H
     have H := H1
     clear H1
     simp only [Option.some.injEq, Prod.mk.injEq] at H
     obtain ⟨rfl, rfl⟩ := H
     go_wp2
     go_ret2
     exact ⟨by first | rfl | (simp; done) | (simp [*]; done), by repeat (first | exact Drawn0.refl _ | apply Drawn0.step)⟩

/-! ### mapsheetsref01_Round: function 42 -/
def mapsheetsref01_Round.f (k : Nat) (a0 : Int) (a1 : Int) : Option (Int × Int) := if a1 = 0 then (some (0, 21)) else ((mapsheetsref01_parts.f a0 a1).bind fun bt336 => ((mapsheetsref01_size.f a1).bind fun t339 => (if bt336.2.1 > (IntKind.u64.wrap (t339 - bt336.2.1)) then ((mapsheetsref01_signed.f k bt336.2.2 (IntKind.u64.wrap (bt336.1 + 1))).bind fun bt340 => (some (bt340.1, bt340.2))) else (if bt336.2.1 = (IntKind.u64.wrap (t339 - bt336.2.1)) then (if bt336.2.2 = true then ((mapsheetsref01_signed.f k bt336.2.2 bt336.1).bind fun bt342 => (some (bt342.1, bt342.2))) else ((mapsheetsref01_signed.f k bt336.2.2 (IntKind.u64.wrap (bt336.1 + 1))).bind fun bt344 => (some (bt344.1, bt344.2)))) else ((mapsheetsref01_signed.f k bt336.2.2 bt336.1).bind fun bt346 => (some (bt346.1, bt346.2)))))))
theorem mapsheetsref01_Round.mono : ∀ a0 a1 k, LeO (mapsheetsref01_Round.f k a0 a1) (mapsheetsref01_Round.f (k + 1) a0 a1) := by
 intro a0 a1 k
 unfold mapsheetsref01_Round.f
 repeat' first
   | (with_reducible exact mapsheetsref01_signed.mono _ _ _)
   | (with_reducible exact LeO.refl _)
   | (with_reducible exact LeO.none _)
   | (with_reducible refine LeO.ite ?_ ?_)
   | (with_reducible refine LeO.bind ?_ (fun _ => ?_))
   | exact mapsheetsref01_signed.mono _ _ _
   | exact LeO.none _
   | refine LeO.ite ?_ ?_
   | refine LeO.bind ?_ (fun _ => ?_)
set_option maxHeartbeats 8000000 in
set_option maxRecDepth 100000 in
theorem mapsheetsref01_Round.calls (k : Nat) (a0 : Int) (a1 : Int) (r1 : Int) (r2 : Int) (w : World) (h : mapsheetsref01_Round.f k a0 a1 = some (r1, r2)) :
  Calls Try.prog 42 #[.int .i64 a0, .int .i64 a1] w fun e w' => e = .returned (.tuple #[.int .i64 r1, .int .i64 r2]) ∧ Drawn0 w w' := by
 have H : (if a1 = 0 then (some (0, 21)) else ((mapsheetsref01_parts.f a0 a1).bind fun bt336 => ((mapsheetsref01_size.f a1).bind fun t339 => (if bt336.2.1 > (IntKind.u64.wrap (t339 - bt336.2.1)) then ((mapsheetsref01_signed.f k bt336.2.2 (IntKind.u64.wrap (bt336.1 + 1))).bind fun bt340 => (some (bt340.1, bt340.2))) else (if bt336.2.1 = (IntKind.u64.wrap (t339 - bt336.2.1)) then (if bt336.2.2 = true then ((mapsheetsref01_signed.f k bt336.2.2 bt336.1).bind fun bt342 => (some (bt342.1, bt342.2))) else ((mapsheetsref01_signed.f k bt336.2.2 (IntKind.u64.wrap (bt336.1 + 1))).bind fun bt344 => (some (bt344.1, bt344.2)))) else ((mapsheetsref01_signed.f k bt336.2.2 bt336.1).bind fun bt346 => (some (bt346.1, bt346.2)))))))) = some (r1, r2) := h
 clear h
 by_cases c3 : a1 = 0
 ·rw [if_pos c3] at H
  have c3b0 : (a1 == 0) = true := beq_iff_eq.mpr c3
  have c3b1 : (a1 != 0) = false := bne_eq_false_iff_eq.mpr c3
  clear c3
  simp only [Option.some.injEq, Prod.mk.injEq] at H
  obtain ⟨rfl, rfl⟩ := H
  go_enter Try.func42, Try.ntmps42
  go_wp2
  go_ret2
  exact ⟨by first | rfl | (simp; done) | (simp [*]; done) | (first | rfl | (simp; done) | (simp [*]; done)), by repeat (first | exact Drawn0.refl _ | apply Drawn0.step)⟩
 ·rw [if_neg c3] at H
  have c3b0 : (a1 == 0) = false := beq_eq_false_iff_ne.mpr c3
  have c3b1 : (a1 != 0) = true := bne_iff_ne.mpr c3
  replace H := Option.bind_eq_some_iff.mp H
  obtain ⟨⟨t336, t337, t338⟩, A40, H⟩ := H
  replace H : ((mapsheetsref01_size.f a1).bind fun t339 => (if t337 > (IntKind.u64.wrap (t339 - t337)) then ((mapsheetsref01_signed.f k t338 (IntKind.u64.wrap (t336 + 1))).bind fun bt340 => (some (bt340.1, bt340.2))) else (if t337 = (IntKind.u64.wrap (t339 - t337)) then (if t338 = true then ((mapsheetsref01_signed.f k t338 t336).bind fun bt342 => (some (bt342.1, bt342.2))) else ((mapsheetsref01_signed.f k t338 (IntKind.u64.wrap (t336 + 1))).bind fun bt344 => (some (bt344.1, bt344.2)))) else ((mapsheetsref01_signed.f k t338 t336).bind fun bt346 => (some (bt346.1, bt346.2)))))) = some (r1, r2) := H
  have A4 := Aside0.mk A40
  clear A40
  replace H := Option.bind_eq_some_iff.mp H
  obtain ⟨t339, A50, H⟩ := H
  replace H : (if t337 > (IntKind.u64.wrap (t339 - t337)) then ((mapsheetsref01_signed.f k t338 (IntKind.u64.wrap (t336 + 1))).bind fun bt340 => (some (bt340.1, bt340.2))) else (if t337 = (IntKind.u64.wrap (t339 - t337)) then (if t338 = true then ((mapsheetsref01_signed.f k t338 t336).bind fun bt342 => (some (bt342.1, bt342.2))) else ((mapsheetsref01_signed.f k t338 (IntKind.u64.wrap (t336 + 1))).bind fun bt344 => (some (bt344.1, bt344.2)))) else ((mapsheetsref01_signed.f k t338 t336).bind fun bt346 => (some (bt346.1, bt346.2))))) = some (r1, r2) := H
  have A5 := Aside0.mk A50
  clear A50
  by_cases c6 : t337 > (IntKind.u64.wrap (t339 - t337))
  ·rw [if_pos c6] at H
   have c6b0 : decide ((IntKind.u64.wrap (t339 - t337)) < t337) = true := decide_eq_true c6
   clear c6
   replace H := Option.bind_eq_some_iff.mp H
   obtain ⟨⟨t340, t341⟩, A70, H⟩ := H
   replace H : (some (t340, t341)) = some (r1, r2) := H
   have A7 := Aside0.mk A70
   clear A70
   simp only [Option.some.injEq, Prod.mk.injEq] at H
   obtain ⟨rfl, rfl⟩ := H
   go_enter Try.func42, Try.ntmps42
   go_wp2_with (first | ((with_reducible refine gate_callee (f := 52) rfl ?_); refine goesL_ (some 15) rfl rfl Try.func52 (by kernel_rfl) rfl #[.int .i64 a0, .int .i64 a1] rfl (by (try simp only [List.map_toArray, List.map_cons, List.map_nil]); first | done | rfl | (simp only [List.length_drop, List.length_take]; rfl)) ?_; (with_reducible refine (mapsheetsref01_parts.calls a0 a1 t336 t337 t338 _ A4.out).mono ?_); rintro e w' ⟨rfl, ⟨nd, rfl⟩⟩; refine ⟨_, rfl, ?_⟩) | ((with_reducible refine gate_callee (f := 53) rfl ?_); refine goesL_ (some 20) rfl rfl Try.func53 (by kernel_rfl) rfl #[.int .i64 a1] rfl (by (try simp only [List.map_toArray, List.map_cons, List.map_nil]); first | done | rfl | (simp only [List.length_drop, List.length_take]; rfl)) ?_; (with_reducible refine (mapsheetsref01_size.calls a1 t339 _ A5.out).mono ?_); rintro e w' ⟨rfl, ⟨nd, rfl⟩⟩; refine ⟨_, rfl, ?_⟩) | ((with_reducible refine gate_callee (f := 54) rfl ?_); refine goesL_ (some 39) rfl rfl Try.func54 (by kernel_rfl) rfl #[.bool t338, .int .u64 (IntKind.u64.wrap (t336 + 1))] rfl (by (try simp only [List.map_toArray, List.map_cons, List.map_nil]); first | done | rfl | (simp only [List.length_drop, List.length_take]; rfl)) ?_; (with_reducible refine (mapsheetsref01_signed.calls k t338 (IntKind.u64.wrap (t336 + 1)) t340 t341 _ A7.out).mono ?_); rintro e w' ⟨rfl, ⟨nd, rfl⟩⟩; refine ⟨_, rfl, ?_⟩))
   go_ret2
   exact ⟨by first | rfl | (simp; done) | (simp [*]; done) | ((try (have e_ := Option.some.inj (A4.out.symm.trans A5.out); subst e_)); (try (have e_ := Option.some.inj (A4.out.symm.trans A7.out); subst e_)); (try (have e_ := Option.some.inj (A5.out.symm.trans A7.out); subst e_)); first | rfl | (simp; done) | (simp [*]; done)), by repeat (first | exact Drawn0.refl _ | apply Drawn0.step)⟩
  ·rw [if_neg c6] at H
   have c6b0 : decide ((IntKind.u64.wrap (t339 - t337)) < t337) = false := decide_eq_false c6
   clear c6
   by_cases c8 : t337 = (IntKind.u64.wrap (t339 - t337))
   ·rw [if_pos c8] at H
    have c8b0 : (t337 == (IntKind.u64.wrap (t339 - t337))) = true := beq_iff_eq.mpr c8
    have c8b1 : (t337 != (IntKind.u64.wrap (t339 - t337))) = false := bne_eq_false_iff_eq.mpr c8
    clear c8
    by_cases c9 : t338 = true
    ·subst c9
     have H1 : ((mapsheetsref01_signed.f k true t336).bind fun bt342 => (some (bt342.1, bt342.2))) = some (r1, r2) := by rw [if_pos rfl] at H; exact H
     clear H
     have H := H1
     clear H1
     replace H := Option.bind_eq_some_iff.mp H
     obtain ⟨⟨t342, t343⟩, A100, H⟩ := H
     replace H : (some (t342, t343)) = some (r1, r2) := H
     have A10 := Aside0.mk A100
     clear A100
     simp only [Option.some.injEq, Prod.mk.injEq] at H
     obtain ⟨rfl, rfl⟩ := H
     go_enter Try.func42, Try.ntmps42
     go_wp2_with (first | ((with_reducible refine gate_callee (f := 52) rfl ?_); refine goesL_ (some 15) rfl rfl Try.func52 (by kernel_rfl) rfl #[.int .i64 a0, .int .i64 a1] rfl (by (try simp only [List.map_toArray, List.map_cons, List.map_nil]); first | done | rfl | (simp only [List.length_drop, List.length_take]; rfl)) ?_; (with_reducible refine (mapsheetsref01_parts.calls a0 a1 t336 t337 true _ A4.out).mono ?_); rintro e w' ⟨rfl, ⟨nd, rfl⟩⟩; refine ⟨_, rfl, ?_⟩) | ((with_reducible refine gate_callee (f := 53) rfl ?_); refine goesL_ (some 20) rfl rfl Try.func53 (by kernel_rfl) rfl #[.int .i64 a1] rfl (by (try simp only [List.map_toArray, List.map_cons, List.map_nil]); first | done | rfl | (simp only [List.length_drop, List.length_take]; rfl)) ?_; (with_reducible refine (mapsheetsref01_size.calls a1 t339 _ A5.out).mono ?_); rintro e w' ⟨rfl, ⟨nd, rfl⟩⟩; refine ⟨_, rfl, ?_⟩) | ((with_reducible refine gate_callee (f := 54) rfl ?_); refine goesL_ (some 39) rfl rfl Try.func54 (by kernel_rfl) rfl #[.bool true, .int .u64 t336] rfl (by (try simp only [List.map_toArray, List.map_cons, List.map_nil]); first | done | rfl | (simp only [List.length_drop, List.length_take]; rfl)) ?_; (with_reducible refine (mapsheetsref01_signed.calls k true t336 t342 t343 _ A10.out).mono ?_); rintro e w' ⟨rfl, ⟨nd, rfl⟩⟩; refine ⟨_, rfl, ?_⟩))
     go_ret2
     exact ⟨by first | rfl | (simp; done) | (simp [*]; done) | ((try (have e_ := Option.some.inj (A4.out.symm.trans A5.out); subst e_)); (try (have e_ := Option.some.inj (A4.out.symm.trans A7.out); subst e_)); (try (have e_ := Option.some.inj (A4.out.symm.trans A10.out); subst e_)); (try (have e_ := Option.some.inj (A5.out.symm.trans A7.out); subst e_)); (try (have e_ := Option.some.inj (A5.out.symm.trans A10.out); subst e_)); (try (have e_ := Option.some.inj (A7.out.symm.trans A10.out); subst e_)); first | rfl | (simp; done) | (simp [*]; done)), by repeat (first | exact Drawn0.refl _ | apply Drawn0.step)⟩
    ·replace c9 := Bool.eq_false_iff.mpr c9
     subst c9
     have H1 : ((mapsheetsref01_signed.f k false (IntKind.u64.wrap (t336 + 1))).bind fun bt344 => (some (bt344.1, bt344.2))) = some (r1, r2) := by rw [if_neg (show ¬ (false = true) by decide)] at H; exact H
     clear H
     have H := H1
     clear H1
     replace H := Option.bind_eq_some_iff.mp H
     obtain ⟨⟨t344, t345⟩, A110, H⟩ := H
     replace H : (some (t344, t345)) = some (r1, r2) := H
     have A11 := Aside0.mk A110
     clear A110
     simp only [Option.some.injEq, Prod.mk.injEq] at H
     obtain ⟨rfl, rfl⟩ := H
     go_enter Try.func42, Try.ntmps42
     go_wp2_with (first | ((with_reducible refine gate_callee (f := 52) rfl ?_); refine goesL_ (some 15) rfl rfl Try.func52 (by kernel_rfl) rfl #[.int .i64 a0, .int .i64 a1] rfl (by (try simp only [List.map_toArray, List.map_cons, List.map_nil]); first | done | rfl | (simp only [List.length_drop, List.length_take]; rfl)) ?_; (with_reducible refine (mapsheetsref01_parts.calls a0 a1 t336 t337 false _ A4.out).mono ?_); rintro e w' ⟨rfl, ⟨nd, rfl⟩⟩; refine ⟨_, rfl, ?_⟩) | ((with_reducible refine gate_callee (f := 53) rfl ?_); refine goesL_ (some 20) rfl rfl Try.func53 (by kernel_rfl) rfl #[.int .i64 a1] rfl (by (try simp only [List.map_toArray, List.map_cons, List.map_nil]); first | done | rfl | (simp only [List.length_drop, List.length_take]; rfl)) ?_; (with_reducible refine (mapsheetsref01_size.calls a1 t339 _ A5.out).mono ?_); rintro e w' ⟨rfl, ⟨nd, rfl⟩⟩; refine ⟨_, rfl, ?_⟩) | ((with_reducible refine gate_callee (f := 54) rfl ?_); refine goesL_ (some 39) rfl rfl Try.func54 (by kernel_rfl) rfl #[.bool false, .int .u64 (IntKind.u64.wrap (t336 + 1))] rfl (by (try simp only [List.map_toArray, List.map_cons, List.map_nil]); first | done | rfl | (simp only [List.length_drop, List.length_take]; rfl)) ?_; (with_reducible refine (mapsheetsref01_signed.calls k false (IntKind.u64.wrap (t336 + 1)) t344 t345 _ A11.out).mono ?_); rintro e w' ⟨rfl, ⟨nd, rfl⟩⟩; refine ⟨_, rfl, ?_⟩))
     go_ret2
     exact ⟨by first | rfl | (simp; done) | (simp [*]; done) | ((try (have e_ := Option.some.inj (A4.out.symm.trans A5.out); subst e_)); (try (have e_ := Option.some.inj (A4.out.symm.trans A7.out); subst e_)); (try (have e_ := Option.some.inj (A4.out.symm.trans A10.out); subst e_)); (try (have e_ := Option.some.inj (A4.out.symm.trans A11.out); subst e_)); (try (have e_ := Option.some.inj (A5.out.symm.trans A7.out); subst e_)); (try (have e_ := Option.some.inj (A5.out.symm.trans A10.out); subst e_)); (try (have e_ := Option.some.inj (A5.out.symm.trans A11.out); subst e_)); (try (have e_ := Option.some.inj (A7.out.symm.trans A10.out); subst e_)); (try (have e_ := Option.some.inj (A7.out.symm.trans A11.out); subst e_)); (try (have e_ := Option.some.inj (A10.out.symm.trans A11.out); subst e_)); first | rfl | (simp; done) | (simp [*]; done)), by repeat (first | exact Drawn0.refl _ | apply Drawn0.step)⟩
   ·rw [if_neg c8] at H
    have c8b0 : (t337 == (IntKind.u64.wrap (t339 - t337))) = false := beq_eq_false_iff_ne.mpr c8
    have c8b1 : (t337 != (IntKind.u64.wrap (t339 - t337))) = true := bne_iff_ne.mpr c8
    replace H := Option.bind_eq_some_iff.mp H
    obtain ⟨⟨t346, t347⟩, A120, H⟩ := H
    replace H : (some (t346, t347)) = some (r1, r2) := H
    have A12 := Aside0.mk A120
    clear A120
    simp only [Option.some.injEq, Prod.mk.injEq] at H
    obtain ⟨rfl, rfl⟩ := H
    go_enter Try.func42, Try.ntmps42
    go_wp2_with (first | ((with_reducible refine gate_callee (f := 52) rfl ?_); refine goesL_ (some 15) rfl rfl Try.func52 (by kernel_rfl) rfl #[.int .i64 a0, .int .i64 a1] rfl (by (try simp only [List.map_toArray, List.map_cons, List.map_nil]); first | done | rfl | (simp only [List.length_drop, List.length_take]; rfl)) ?_; (with_reducible refine (mapsheetsref01_parts.calls a0 a1 t336 t337 t338 _ A4.out).mono ?_); rintro e w' ⟨rfl, ⟨nd, rfl⟩⟩; refine ⟨_, rfl, ?_⟩) | ((with_reducible refine gate_callee (f := 53) rfl ?_); refine goesL_ (some 20) rfl rfl Try.func53 (by kernel_rfl) rfl #[.int .i64 a1] rfl (by (try simp only [List.map_toArray, List.map_cons, List.map_nil]); first | done | rfl | (simp only [List.length_drop, List.length_take]; rfl)) ?_; (with_reducible refine (mapsheetsref01_size.calls a1 t339 _ A5.out).mono ?_); rintro e w' ⟨rfl, ⟨nd, rfl⟩⟩; refine ⟨_, rfl, ?_⟩) | ((with_reducible refine gate_callee (f := 54) rfl ?_); refine goesL_ (some 39) rfl rfl Try.func54 (by kernel_rfl) rfl #[.bool t338, .int .u64 t336] rfl (by (try simp only [List.map_toArray, List.map_cons, List.map_nil]); first | done | rfl | (simp only [List.length_drop, List.length_take]; rfl)) ?_; (with_reducible refine (mapsheetsref01_signed.calls k t338 t336 t346 t347 _ A12.out).mono ?_); rintro e w' ⟨rfl, ⟨nd, rfl⟩⟩; refine ⟨_, rfl, ?_⟩))
    go_ret2
    exact ⟨by first | rfl | (simp; done) | (simp [*]; done) | ((try (have e_ := Option.some.inj (A4.out.symm.trans A5.out); subst e_)); (try (have e_ := Option.some.inj (A4.out.symm.trans A7.out); subst e_)); (try (have e_ := Option.some.inj (A4.out.symm.trans A10.out); subst e_)); (try (have e_ := Option.some.inj (A4.out.symm.trans A11.out); subst e_)); (try (have e_ := Option.some.inj (A4.out.symm.trans A12.out); subst e_)); (try (have e_ := Option.some.inj (A5.out.symm.trans A7.out); subst e_)); (try (have e_ := Option.some.inj (A5.out.symm.trans A10.out); subst e_)); (try (have e_ := Option.some.inj (A5.out.symm.trans A11.out); subst e_)); (try (have e_ := Option.some.inj (A5.out.symm.trans A12.out); subst e_)); (try (have e_ := Option.some.inj (A7.out.symm.trans A10.out); subst e_)); (try (have e_ := Option.some.inj (A7.out.symm.trans A11.out); subst e_)); (try (have e_ := Option.some.inj (A7.out.symm.trans A12.out); subst e_)); (try (have e_ := Option.some.inj (A10.out.symm.trans A11.out); subst e_)); (try (have e_ := Option.some.inj (A10.out.symm.trans A12.out); subst e_)); (try (have e_ := Option.some.inj (A11.out.symm.trans A12.out); subst e_)); first | rfl | (simp; done) | (simp [*]; done)), by repeat (first | exact Drawn0.refl _ | apply Drawn0.step)⟩

/-! ### mapsheetsref11_over: function 64 -/
def mapsheetsref11_over.f (a0 : Int) (a1 : Int) : Option (Int) := if a1 = 0 then (none) else (if (Int.tmod a0 a1) < 0 then (some (wrap64 ((wrap64 (Int.tdiv a0 a1)) - 1))) else (some (wrap64 (Int.tdiv a0 a1))))
set_option maxHeartbeats 8000000 in
set_option maxRecDepth 100000 in
theorem mapsheetsref11_over.calls (a0 : Int) (a1 : Int) (r : Int) (w : World) (h : mapsheetsref11_over.f a0 a1 = some r) :
  Calls Try.prog 64 #[.int .i64 a0, .int .i64 a1] w fun e w' => e = .returned (.int .i64 r) ∧ Drawn0 w w' := by
 have H : (if a1 = 0 then (none) else (if (Int.tmod a0 a1) < 0 then (some (wrap64 ((wrap64 (Int.tdiv a0 a1)) - 1))) else (some (wrap64 (Int.tdiv a0 a1))))) = some r := h
 clear h
 by_cases c3 : a1 = 0
 ·rw [if_pos c3] at H
  exact absurd H (by simp)
 ·rw [if_neg c3] at H
  have c3b0 : (a1 == 0) = false := beq_eq_false_iff_ne.mpr c3
  have c3b1 : (a1 != 0) = true := bne_iff_ne.mpr c3
  by_cases c4 : (Int.tmod a0 a1) < 0
  ·rw [if_pos c4] at H
   have c4b0 : decide ((Int.tmod a0 a1) < 0) = true := decide_eq_true c4
   clear c4
   obtain rfl := Option.some.inj H
   go_enter Try.func64, Try.ntmps64
   go_wp2
   go_ret
   exact ⟨by first | rfl | (simp; done) | (simp [*]; done), by repeat (first | exact Drawn0.refl _ | apply Drawn0.step)⟩
  ·rw [if_neg c4] at H
   have c4b0 : decide ((Int.tmod a0 a1) < 0) = false := decide_eq_false c4
   clear c4
   obtain rfl := Option.some.inj H
   go_enter Try.func64, Try.ntmps64
   go_wp2
   go_ret
   exact ⟨by first | rfl | (simp; done) | (simp [*]; done), by repeat (first | exact Drawn0.refl _ | apply Drawn0.step)⟩

/-! ### mapsheetsref11_modulo: function 55 -/
def mapsheetsref11_modulo.f (a0 : Int) : Option (Int) := (mapsheetsref11_over.f a0 1296000).bind fun t348 => (some (wrap64 (a0 - (wrap64 (t348 * 1296000)))))
set_option maxHeartbeats 8000000 in
set_option maxRecDepth 100000 in
theorem mapsheetsref11_modulo.calls (a0 : Int) (r : Int) (w : World) (h : mapsheetsref11_modulo.f a0 = some r) :
  Calls Try.prog 55 #[.int .i64 a0] w fun e w' => e = .returned (.int .i64 r) ∧ Drawn0 w w' := by
 have H : ((mapsheetsref11_over.f a0 1296000).bind fun t348 => (some (wrap64 (a0 - (wrap64 (t348 * 1296000)))))) = some r := h
 clear h
 replace H := Option.bind_eq_some_iff.mp H
 obtain ⟨t348, A20, H⟩ := H
 replace H : (some (wrap64 (a0 - (wrap64 (t348 * 1296000))))) = some r := H
 have A2 := Aside0.mk A20
 clear A20
 obtain rfl := Option.some.inj H
 go_enter Try.func55, Try.ntmps55
 go_wp2_with (first | ((with_reducible refine gate_callee (f := 64) rfl ?_); refine goesL_ (some 5) rfl rfl Try.func64 (by kernel_rfl) rfl #[.int .i64 a0, .int .i64 1296000] rfl (by (try simp only [List.map_toArray, List.map_cons, List.map_nil]); first | done | rfl | (simp only [List.length_drop, List.length_take]; rfl)) ?_; (with_reducible refine (mapsheetsref11_over.calls a0 1296000 t348 _ A2.out).mono ?_); rintro e w' ⟨rfl, ⟨nd, rfl⟩⟩; refine ⟨_, rfl, ?_⟩))
 go_ret
 exact ⟨by first | rfl | (simp; done) | (simp [*]; done), by repeat (first | exact Drawn0.refl _ | apply Drawn0.step)⟩

/-! ### mapsheetsref11_rounded: function 56 -/
def mapsheetsref11_rounded.f (a0 : Int) (a1 : Int) : Option (Int) := (mapsheetsref11_over.f (wrap64 (a0 + (wrap64 (Int.tdiv a1 2)))) a1).bind fun t349 => (some t349)
set_option maxHeartbeats 8000000 in
set_option maxRecDepth 100000 in
theorem mapsheetsref11_rounded.calls (a0 : Int) (a1 : Int) (r : Int) (w : World) (h : mapsheetsref11_rounded.f a0 a1 = some r) :
  Calls Try.prog 56 #[.int .i64 a0, .int .i64 a1] w fun e w' => e = .returned (.int .i64 r) ∧ Drawn0 w w' := by
 have H : ((mapsheetsref11_over.f (wrap64 (a0 + (wrap64 (Int.tdiv a1 2)))) a1).bind fun t349 => (some t349)) = some r := h
 clear h
 replace H := Option.bind_eq_some_iff.mp H
 obtain ⟨t349, A30, H⟩ := H
 replace H : (some t349) = some r := H
 have A3 := Aside0.mk A30
 clear A30
 obtain rfl := Option.some.inj H
 go_enter Try.func56, Try.ntmps56
 go_wp2_with (first | ((with_reducible refine gate_callee (f := 64) rfl ?_); refine goesL_ (some 10) rfl rfl Try.func64 (by kernel_rfl) rfl #[.int .i64 (wrap64 (a0 + (wrap64 (Int.tdiv a1 2)))), .int .i64 a1] rfl (by (try simp only [List.map_toArray, List.map_cons, List.map_nil]); first | done | rfl | (simp only [List.length_drop, List.length_take]; rfl)) ?_; (with_reducible refine (mapsheetsref11_over.calls (wrap64 (a0 + (wrap64 (Int.tdiv a1 2)))) a1 t349 _ A3.out).mono ?_); rintro e w' ⟨rfl, ⟨nd, rfl⟩⟩; refine ⟨_, rfl, ?_⟩))
 go_ret
 exact ⟨by first | rfl | (simp; done) | (simp [*]; done), by repeat (first | exact Drawn0.refl _ | apply Drawn0.step)⟩

/-! ### mapsheetsref11_half: function 65 -/
def mapsheetsref11_half.f (a0 : Int) (a1 : Int) (a2 : Int) : Option (Int) := if a2 = 0 then (none) else (some (wrap64 ((wrap64 ((wrap64 (Int.tdiv a0 a2)) * (wrap64 (Int.tdiv a1 a2)))) + (wrap64 (Int.tdiv (wrap64 ((wrap64 ((wrap64 ((wrap64 (Int.tdiv a0 a2)) * (Int.tmod a1 a2))) + (wrap64 ((Int.tmod a0 a2) * (wrap64 (Int.tdiv a1 a2)))))) + (wrap64 (Int.tdiv (wrap64 ((Int.tmod a0 a2) * (Int.tmod a1 a2))) a2)))) a2)))))
set_option maxHeartbeats 8000000 in
set_option maxRecDepth 100000 in
theorem mapsheetsref11_half.calls (a0 : Int) (a1 : Int) (a2 : Int) (r : Int) (w : World) (h : mapsheetsref11_half.f a0 a1 a2 = some r) :
  Calls Try.prog 65 #[.int .i64 a0, .int .i64 a1, .int .i64 a2] w fun e w' => e = .returned (.int .i64 r) ∧ Drawn0 w w' := by
 have H : (if a2 = 0 then (none) else (some (wrap64 ((wrap64 ((wrap64 (Int.tdiv a0 a2)) * (wrap64 (Int.tdiv a1 a2)))) + (wrap64 (Int.tdiv (wrap64 ((wrap64 ((wrap64 ((wrap64 (Int.tdiv a0 a2)) * (Int.tmod a1 a2))) + (wrap64 ((Int.tmod a0 a2) * (wrap64 (Int.tdiv a1 a2)))))) + (wrap64 (Int.tdiv (wrap64 ((Int.tmod a0 a2) * (Int.tmod a1 a2))) a2)))) a2)))))) = some r := h
 clear h
 by_cases c4 : a2 = 0
 ·rw [if_pos c4] at H
  exact absurd H (by simp)
 ·rw [if_neg c4] at H
  have c4b0 : (a2 == 0) = false := beq_eq_false_iff_ne.mpr c4
  have c4b1 : (a2 != 0) = true := bne_iff_ne.mpr c4
  obtain rfl := Option.some.inj H
  go_enter Try.func65, Try.ntmps65
  go_wp2
  repeat (go_quiet (fail); try go_wp2)
  go_ret
  exact ⟨by first | rfl | (simp; done) | (simp [*]; done), by repeat (first | exact Drawn0.refl _ | apply Drawn0.step)⟩

/-! ### mapsheetsref11_fine: function 57 -/
def mapsheetsref11_fine.l0 : Nat → Int → Int → Int → Int → Option (Int)
 | 0, _, _, _, _ => none
 | k + 1, x3, x4, x5, x6 => if x6 ≤ 13 then ((mapsheetsref11_half.f x5 x3 1073741824).bind fun t350 => ((mapsheetsref11_half.f t350 x3 1073741824).bind fun t351 => (if (wrap64 ((wrap64 (2 * x6)) * (wrap64 ((wrap64 (2 * x6)) + 1)))) = 0 then (none) else (if (Int.tmod x6 2) = 1 then (mapsheetsref11_fine.l0 k x3 (wrap64 (x4 - (wrap64 (Int.tdiv t351 (wrap64 ((wrap64 (2 * x6)) * (wrap64 ((wrap64 (2 * x6)) + 1)))))))) (wrap64 (Int.tdiv t351 (wrap64 ((wrap64 (2 * x6)) * (wrap64 ((wrap64 (2 * x6)) + 1)))))) (wrap64 (x6 + 1))) else (mapsheetsref11_fine.l0 k x3 (wrap64 (x4 + (wrap64 (Int.tdiv t351 (wrap64 ((wrap64 (2 * x6)) * (wrap64 ((wrap64 (2 * x6)) + 1)))))))) (wrap64 (Int.tdiv t351 (wrap64 ((wrap64 (2 * x6)) * (wrap64 ((wrap64 (2 * x6)) + 1)))))) (wrap64 (x6 + 1))))))) else (some x4)
def mapsheetsref11_fine.f (k : Nat) (a0 : Int) : Option (Int) := mapsheetsref11_fine.l0 k (wrap64 ((wrap64 (a0 * 5589521186787)) + (wrap64 (Int.tdiv (wrap64 (a0 * 585421)) 648000)))) (wrap64 ((wrap64 (a0 * 5589521186787)) + (wrap64 (Int.tdiv (wrap64 (a0 * 585421)) 648000)))) (wrap64 ((wrap64 (a0 * 5589521186787)) + (wrap64 (Int.tdiv (wrap64 (a0 * 585421)) 648000)))) 1
theorem mapsheetsref11_fine.mono_l : ∀ k, (∀ y0 y1 y2 y3, LeO (mapsheetsref11_fine.l0 k y0 y1 y2 y3) (mapsheetsref11_fine.l0 (k + 1) y0 y1 y2 y3))
 | 0 => fun _ _ _ _ r h => by simp [mapsheetsref11_fine.l0] at h
 | k + 1 => by
  have ih0 := mapsheetsref11_fine.mono_l k
  ·intro y0 y1 y2 y3
   unfold mapsheetsref11_fine.l0
   repeat' first
   | (with_reducible exact ih0 _ _ _ _)
   | (with_reducible exact LeO.refl _)
   | (with_reducible exact LeO.none _)
   | (with_reducible refine LeO.ite ?_ ?_)
   | (with_reducible refine LeO.bind ?_ (fun _ => ?_))
   | exact ih0 _ _ _ _
   | exact LeO.none _
   | refine LeO.ite ?_ ?_
   | refine LeO.bind ?_ (fun _ => ?_)
theorem mapsheetsref11_fine.mono : ∀ a0 k, LeO (mapsheetsref11_fine.f k a0) (mapsheetsref11_fine.f (k + 1) a0) := by
 intro a0 k
 have ih0 := mapsheetsref11_fine.mono_l k
 unfold mapsheetsref11_fine.f
 repeat' first
   | (with_reducible exact ih0 _ _ _ _)
   | (with_reducible exact LeO.refl _)
   | (with_reducible exact LeO.none _)
   | (with_reducible refine LeO.ite ?_ ?_)
   | (with_reducible refine LeO.bind ?_ (fun _ => ?_))
   | exact ih0 _ _ _ _
   | exact LeO.none _
   | refine LeO.ite ?_ ?_
   | refine LeO.bind ?_ (fun _ => ?_)
set_option maxHeartbeats 8000000 in
set_option maxRecDepth 100000 in
theorem mapsheetsref11_fine.calls (k : Nat) (a0 : Int) (r : Int) (w : World) (h : mapsheetsref11_fine.f k a0 = some r) :
  Calls Try.prog 57 #[.int .i64 a0] w fun e w' => e = .returned (.int .i64 r) ∧ Drawn0 w w' := by
 have H : (mapsheetsref11_fine.l0 k (wrap64 ((wrap64 (a0 * 5589521186787)) + (wrap64 (Int.tdiv (wrap64 (a0 * 585421)) 648000)))) (wrap64 ((wrap64 (a0 * 5589521186787)) + (wrap64 (Int.tdiv (wrap64 (a0 * 585421)) 648000)))) (wrap64 ((wrap64 (a0 * 5589521186787)) + (wrap64 (Int.tdiv (wrap64 (a0 * 585421)) 648000)))) 1) = some r := h
 clear h
 have H' := Aside0.mk H
 clear H
 go_enter Try.func57, Try.ntmps57
 go_wp2
 go_loopg [4, 5, 6] k (fun kq v4 v5 v6 w' => ∃ (x4_1 : Int) (x5_1 : Int) (x6_1 : Int), v4 = .int .i64 x4_1 ∧ v5 = .int .i64 x5_1 ∧ v6 = .int .i64 x6_1 ∧ Aside0 (mapsheetsref11_fine.l0 kq (wrap64 ((wrap64 (a0 * 5589521186787)) + (wrap64 (Int.tdiv (wrap64 (a0 * 585421)) 648000)))) x4_1 x5_1 x6_1 = some r) ∧ Aside0 (kq ≤ k) ∧ Drawn0 w w')
 case atStart => exact ⟨(wrap64 ((wrap64 (a0 * 5589521186787)) + (wrap64 (Int.tdiv (wrap64 (a0 * 585421)) 648000)))), (wrap64 ((wrap64 (a0 * 5589521186787)) + (wrap64 (Int.tdiv (wrap64 (a0 * 585421)) 648000)))), (1), (by first | rfl | (simp; done) | (simp [*]; done)), (by first | rfl | (simp; done) | (simp [*]; done)), (by first | rfl | (simp; done) | (simp [*]; done)), H', ⟨Nat.le_refl _⟩, by repeat (first | exact Drawn0.refl _ | apply Drawn0.step)⟩
 case round =>
  clear H'
  obtain ⟨x4_1, x5_1, x6_1, rfl, rfl, rfl, HA, HK1, ⟨m1, rfl⟩⟩ := hrel
  cases gk with
  | zero => exact absurd HA.out (by simp [mapsheetsref11_fine.l0])
  | succ k1 =>
   have H := HA.out
   clear HA
   simp only [mapsheetsref11_fine.l0] at H
   by_cases c2 : x6_1 ≤ 13
   ·rw [if_pos c2] at H
    have c2b0 : decide (x6_1 ≤ 13) = true := decide_eq_true c2
    clear c2
    replace H := Option.bind_eq_some_iff.mp H
    obtain ⟨t350, A30, H⟩ := H
    replace H : ((mapsheetsref11_half.f t350 (wrap64 ((wrap64 (a0 * 5589521186787)) + (wrap64 (Int.tdiv (wrap64 (a0 * 585421)) 648000)))) 1073741824).bind fun t351 => (if (wrap64 ((wrap64 (2 * x6_1)) * (wrap64 ((wrap64 (2 * x6_1)) + 1)))) = 0 then (none) else (if (Int.tmod x6_1 2) = 1 then (mapsheetsref11_fine.l0 k1 (wrap64 ((wrap64 (a0 * 5589521186787)) + (wrap64 (Int.tdiv (wrap64 (a0 * 585421)) 648000)))) (wrap64 (x4_1 - (wrap64 (Int.tdiv t351 (wrap64 ((wrap64 (2 * x6_1)) * (wrap64 ((wrap64 (2 * x6_1)) + 1)))))))) (wrap64 (Int.tdiv t351 (wrap64 ((wrap64 (2 * x6_1)) * (wrap64 ((wrap64 (2 * x6_1)) + 1)))))) (wrap64 (x6_1 + 1))) else (mapsheetsref11_fine.l0 k1 (wrap64 ((wrap64 (a0 * 5589521186787)) + (wrap64 (Int.tdiv (wrap64 (a0 * 585421)) 648000)))) (wrap64 (x4_1 + (wrap64 (Int.tdiv t351 (wrap64 ((wrap64 (2 * x6_1)) * (wrap64 ((wrap64 (2 * x6_1)) + 1)))))))) (wrap64 (Int.tdiv t351 (wrap64 ((wrap64 (2 * x6_1)) * (wrap64 ((wrap64 (2 * x6_1)) + 1)))))) (wrap64 (x6_1 + 1)))))) = some r := H
    have A3 := Aside0.mk A30
    clear A30
    replace H := Option.bind_eq_some_iff.mp H
    obtain ⟨t351, A40, H⟩ := H
    replace H : (if (wrap64 ((wrap64 (2 * x6_1)) * (wrap64 ((wrap64 (2 * x6_1)) + 1)))) = 0 then (none) else (if (Int.tmod x6_1 2) = 1 then (mapsheetsref11_fine.l0 k1 (wrap64 ((wrap64 (a0 * 5589521186787)) + (wrap64 (Int.tdiv (wrap64 (a0 * 585421)) 648000)))) (wrap64 (x4_1 - (wrap64 (Int.tdiv t351 (wrap64 ((wrap64 (2 * x6_1)) * (wrap64 ((wrap64 (2 * x6_1)) + 1)))))))) (wrap64 (Int.tdiv t351 (wrap64 ((wrap64 (2 * x6_1)) * (wrap64 ((wrap64 (2 * x6_1)) + 1)))))) (wrap64 (x6_1 + 1))) else (mapsheetsref11_fine.l0 k1 (wrap64 ((wrap64 (a0 * 5589521186787)) + (wrap64 (Int.tdiv (wrap64 (a0 * 585421)) 648000)))) (wrap64 (x4_1 + (wrap64 (Int.tdiv t351 (wrap64 ((wrap64 (2 * x6_1)) * (wrap64 ((wrap64 (2 * x6_1)) + 1)))))))) (wrap64 (Int.tdiv t351 (wrap64 ((wrap64 (2 * x6_1)) * (wrap64 ((wrap64 (2 * x6_1)) + 1)))))) (wrap64 (x6_1 + 1))))) = some r := H
    have A4 := Aside0.mk A40
    clear A40
    by_cases c5 : (wrap64 ((wrap64 (2 * x6_1)) * (wrap64 ((wrap64 (2 * x6_1)) + 1)))) = 0
    ·rw [if_pos c5] at H
     exact absurd H (by simp)
    ·rw [if_neg c5] at H
     have c5b0 : ((wrap64 ((wrap64 (2 * x6_1)) * (wrap64 ((wrap64 (2 * x6_1)) + 1)))) == 0) = false := beq_eq_false_iff_ne.mpr c5
     have c5b1 : ((wrap64 ((wrap64 (2 * x6_1)) * (wrap64 ((wrap64 (2 * x6_1)) + 1)))) != 0) = true := bne_iff_ne.mpr c5
     by_cases c6 : (Int.tmod x6_1 2) = 1
     ·rw [if_pos c6] at H
      have c6b0 : ((Int.tmod x6_1 2) == 1) = true := beq_iff_eq.mpr c6
      have c6b1 : ((Int.tmod x6_1 2) != 1) = false := bne_eq_false_iff_eq.mpr c6
      clear c6
      have H' := Aside0.mk H
      clear H
      go_wp2_with (first | ((with_reducible refine gate_callee (f := 65) rfl ?_); refine goesL_ (some 21) rfl rfl Try.func65 (by kernel_rfl) rfl #[.int .i64 x5_1, .int .i64 (wrap64 ((wrap64 (a0 * 5589521186787)) + (wrap64 (Int.tdiv (wrap64 (a0 * 585421)) 648000)))), .int .i64 1073741824] rfl (by (try simp only [List.map_toArray, List.map_cons, List.map_nil]); first | done | rfl | (simp only [List.length_drop, List.length_take]; rfl)) ?_; (with_reducible refine (mapsheetsref11_half.calls x5_1 (wrap64 ((wrap64 (a0 * 5589521186787)) + (wrap64 (Int.tdiv (wrap64 (a0 * 585421)) 648000)))) 1073741824 t350 _ A3.out).mono ?_); rintro e w' ⟨rfl, ⟨nd, rfl⟩⟩; refine ⟨_, rfl, ?_⟩) | ((with_reducible refine gate_callee (f := 65) rfl ?_); refine goesL_ (some 23) rfl rfl Try.func65 (by kernel_rfl) rfl #[.int .i64 t350, .int .i64 (wrap64 ((wrap64 (a0 * 5589521186787)) + (wrap64 (Int.tdiv (wrap64 (a0 * 585421)) 648000)))), .int .i64 1073741824] rfl (by (try simp only [List.map_toArray, List.map_cons, List.map_nil]); first | done | rfl | (simp only [List.length_drop, List.length_take]; rfl)) ?_; (with_reducible refine (mapsheetsref11_half.calls t350 (wrap64 ((wrap64 (a0 * 5589521186787)) + (wrap64 (Int.tdiv (wrap64 (a0 * 585421)) 648000)))) 1073741824 t351 _ A4.out).mono ?_); rintro e w' ⟨rfl, ⟨nd, rfl⟩⟩; refine ⟨_, rfl, ?_⟩))
      go_roundg k1
      case measure => have := HK1.out; omega
      case rel => exact ⟨(wrap64 (x4_1 - (wrap64 (Int.tdiv t351 (wrap64 ((wrap64 (2 * x6_1)) * (wrap64 ((wrap64 (2 * x6_1)) + 1)))))))), (wrap64 (Int.tdiv t351 (wrap64 ((wrap64 (2 * x6_1)) * (wrap64 ((wrap64 (2 * x6_1)) + 1)))))), (wrap64 (x6_1 + 1)), (by first | rfl | (simp; done) | (simp [*]; done)), (by first | rfl | (simp; done) | (simp [*]; done)), (by first | rfl | (simp; done) | (simp [*]; done)), H', ⟨by have := HK1.out; omega⟩, by repeat (first | exact Drawn0.refl _ | apply Drawn0.step)⟩
     ·rw [if_neg c6] at H
      have c6b0 : ((Int.tmod x6_1 2) == 1) = false := beq_eq_false_iff_ne.mpr c6
      have c6b1 : ((Int.tmod x6_1 2) != 1) = true := bne_iff_ne.mpr c6
      have H' := Aside0.mk H
      clear H
      go_wp2_with (first | ((with_reducible refine gate_callee (f := 65) rfl ?_); refine goesL_ (some 21) rfl rfl Try.func65 (by kernel_rfl) rfl #[.int .i64 x5_1, .int .i64 (wrap64 ((wrap64 (a0 * 5589521186787)) + (wrap64 (Int.tdiv (wrap64 (a0 * 585421)) 648000)))), .int .i64 1073741824] rfl (by (try simp only [List.map_toArray, List.map_cons, List.map_nil]); first | done | rfl | (simp only [List.length_drop, List.length_take]; rfl)) ?_; (with_reducible refine (mapsheetsref11_half.calls x5_1 (wrap64 ((wrap64 (a0 * 5589521186787)) + (wrap64 (Int.tdiv (wrap64 (a0 * 585421)) 648000)))) 1073741824 t350 _ A3.out).mono ?_); rintro e w' ⟨rfl, ⟨nd, rfl⟩⟩; refine ⟨_, rfl, ?_⟩) | ((with_reducible refine gate_callee (f := 65) rfl ?_); refine goesL_ (some 23) rfl rfl Try.func65 (by kernel_rfl) rfl #[.int .i64 t350, .int .i64 (wrap64 ((wrap64 (a0 * 5589521186787)) + (wrap64 (Int.tdiv (wrap64 (a0 * 585421)) 648000)))), .int .i64 1073741824] rfl (by (try simp only [List.map_toArray, List.map_cons, List.map_nil]); first | done | rfl | (simp only [List.length_drop, List.length_take]; rfl)) ?_; (with_reducible refine (mapsheetsref11_half.calls t350 (wrap64 ((wrap64 (a0 * 5589521186787)) + (wrap64 (Int.tdiv (wrap64 (a0 * 585421)) 648000)))) 1073741824 t351 _ A4.out).mono ?_); rintro e w' ⟨rfl, ⟨nd, rfl⟩⟩; refine ⟨_, rfl, ?_⟩))
      go_roundg k1
      case measure => have := HK1.out; omega
      case rel => exact ⟨(wrap64 (x4_1 + (wrap64 (Int.tdiv t351 (wrap64 ((wrap64 (2 * x6_1)) * (wrap64 ((wrap64 (2 * x6_1)) + 1)))))))), (wrap64 (Int.tdiv t351 (wrap64 ((wrap64 (2 * x6_1)) * (wrap64 ((wrap64 (2 * x6_1)) + 1)))))), (wrap64 (x6_1 + 1)), (by first | rfl | (simp; done) | (simp [*]; done)), (by first | rfl | (simp; done) | (simp [*]; done)), (by first | rfl | (simp; done) | (simp [*]; done)), H', ⟨by have := HK1.out; omega⟩, by repeat (first | exact Drawn0.refl _ | apply Drawn0.step)⟩
   ·rw [if_neg c2] at H
    have c2b0 : decide (x6_1 ≤ 13) = false := decide_eq_false c2
    clear c2
    obtain rfl := Option.some.inj H
    go_wp2
    go_ret
    exact ⟨by first | rfl | (simp; done) | (simp [*]; done), by repeat (first | exact Drawn0.refl _ | apply Drawn0.step)⟩

/-! ### mapsheetsref11_Sin: function 44 -/
def mapsheetsref11_Sin.f : Nat → Int → Option (Int)
 | 0, _ => none
 | k + 1, a0 => (mapsheetsref11_modulo.f a0).bind fun t352 => (if t352 > 648000 then ((mapsheetsref11_Sin.f k (wrap64 (1296000 - t352))).bind fun t353 => (some (wrap64 (-t353)))) else ((mapsheetsref11_fine.f k (mn t352 (wrap64 (648000 - t352)))).bind fun t354 => ((mapsheetsref11_rounded.f t354 1073741824).bind fun t355 => (some t355))))
theorem mapsheetsref11_Sin.mono_l : ∀ k, (∀ y0, LeO (mapsheetsref11_Sin.f k y0) (mapsheetsref11_Sin.f (k + 1) y0))
 | 0 => fun _ r h => by simp [mapsheetsref11_Sin.f] at h
 | k + 1 => by
  have ih0 := mapsheetsref11_Sin.mono_l k
  ·intro y0
   unfold mapsheetsref11_Sin.f
   repeat' first
   | (with_reducible exact ih0 _)
   | (with_reducible exact mapsheetsref11_fine.mono _ _)
   | (with_reducible exact LeO.refl _)
   | (with_reducible exact LeO.none _)
   | (with_reducible refine LeO.ite ?_ ?_)
   | (with_reducible refine LeO.bind ?_ (fun _ => ?_))
   | exact ih0 _
   | exact mapsheetsref11_fine.mono _ _
   | exact LeO.none _
   | refine LeO.ite ?_ ?_
   | refine LeO.bind ?_ (fun _ => ?_)
theorem mapsheetsref11_Sin.mono : ∀ a0 k, LeO (mapsheetsref11_Sin.f k a0) (mapsheetsref11_Sin.f (k + 1) a0) := by
 intro a0 k
 have ih0 := mapsheetsref11_Sin.mono_l k
 exact ih0 a0
set_option maxHeartbeats 8000000 in
set_option maxRecDepth 100000 in
theorem mapsheetsref11_Sin.calls (k : Nat) : ∀ (a0 : Int) (r : Int) (w : World) (h : mapsheetsref11_Sin.f k a0 = some r),
  Calls Try.prog 44 #[.int .i64 a0] w fun e w' => e = .returned (.int .i64 r) ∧ Below w.heap.size w w' := by
 induction k using Nat.strongRecOn with
 | _ k ih =>
 intro a0 r w h
 cases k with
 | zero => exact absurd h (by simp [mapsheetsref11_Sin.f])
 | succ k =>
 simp only [mapsheetsref11_Sin.f] at h
 have HB := Aside0.mk (Below.refl w.heap.size w)
 have H : ((mapsheetsref11_modulo.f a0).bind fun t352 => (if t352 > 648000 then ((mapsheetsref11_Sin.f k (wrap64 (1296000 - t352))).bind fun t353 => (some (wrap64 (-t353)))) else ((mapsheetsref11_fine.f k (mn t352 (wrap64 (648000 - t352)))).bind fun t354 => ((mapsheetsref11_rounded.f t354 1073741824).bind fun t355 => (some t355))))) = some r := h
 clear h
 replace H := Option.bind_eq_some_iff.mp H
 obtain ⟨t352, A20, H⟩ := H
 replace H : (if t352 > 648000 then ((mapsheetsref11_Sin.f k (wrap64 (1296000 - t352))).bind fun t353 => (some (wrap64 (-t353)))) else ((mapsheetsref11_fine.f k (mn t352 (wrap64 (648000 - t352)))).bind fun t354 => ((mapsheetsref11_rounded.f t354 1073741824).bind fun t355 => (some t355)))) = some r := H
 have A2 := Aside0.mk A20
 clear A20
 by_cases c3 : t352 > 648000
 ·rw [if_pos c3] at H
  have c3b0 : decide (648000 < t352) = true := decide_eq_true c3
  clear c3
  replace H := Option.bind_eq_some_iff.mp H
  obtain ⟨t353, A40, H⟩ := H
  replace H : (some (wrap64 (-t353))) = some r := H
  have A4 := Aside0.mk A40
  clear A40
  obtain rfl := Option.some.inj H
  go_enter Try.func44, Try.ntmps44
  go_wp2_with (first | ((with_reducible refine gate_callee (f := 55) rfl ?_); refine goesL_ (some 5) rfl rfl Try.func55 (by kernel_rfl) rfl #[.int .i64 a0] rfl (by (try simp only [List.map_toArray, List.map_cons, List.map_nil]); first | done | rfl | (simp only [List.length_drop, List.length_take]; rfl)) ?_; (with_reducible refine (mapsheetsref11_modulo.calls a0 t352 _ A2.out).mono ?_); rintro e w' ⟨rfl, ⟨nd, rfl⟩⟩; refine ⟨_, rfl, ?_⟩) | ((with_reducible refine gate_callee (f := 44) rfl ?_); refine goesL_ (some 10) rfl rfl Try.func44 (by kernel_rfl) rfl #[.int .i64 (wrap64 (1296000 - t352))] rfl (by (try simp only [List.map_toArray, List.map_cons, List.map_nil]); first | done | rfl | (simp only [List.length_drop, List.length_take]; rfl)) ?_; (with_reducible refine (ih k (by omega) (wrap64 (1296000 - t352)) t353 _ A4.out).mono ?_); rintro e w5 ⟨rfl, hb⟩; refine ⟨_, rfl, ?_⟩; have n0_ := Aside0.mk (below_step (by with_reducible repeat first | exact HB.out | apply ba | apply bn | apply bd) hb); clear HB; have HB := n0_; clear n0_; (try clear hb); (try clear hb2); (try clear hk); (try clear hi)))
  go_ret
  exact ⟨by first | rfl | (simp [errW_none, errW_some] <;> rfl) | (simp [*, errW_none, errW_some] <;> rfl), by with_reducible repeat first | exact HB.out | apply ba | apply bn | apply bd⟩
 ·rw [if_neg c3] at H
  have c3b0 : decide (648000 < t352) = false := decide_eq_false c3
  clear c3
  obtain ⟨ji6, hji6⟩ : ∃ j_ : Int, (mn t352 (wrap64 (648000 - t352))) = j_ := ⟨_, rfl⟩
  replace H : ((mapsheetsref11_fine.f k (ji6)).bind fun t354 => ((mapsheetsref11_rounded.f t354 1073741824).bind fun t355 => (some t355))) = some r := by first | (rw [hji6] at H; exact H) | (simp only [hji6] at H ⊢; exact H)
  (try rw [hji6] at A2)
  have hji6_ : (if (wrap64 (648000 - t352)) < t352 then (wrap64 (648000 - t352)) else t352) = ji6 := hji6
  replace H := Option.bind_eq_some_iff.mp H
  obtain ⟨t354, A70, H⟩ := H
  replace H : ((mapsheetsref11_rounded.f t354 1073741824).bind fun t355 => (some t355)) = some r := H
  have A7 := Aside0.mk A70
  clear A70
  replace H := Option.bind_eq_some_iff.mp H
  obtain ⟨t355, A80, H⟩ := H
  replace H : (some t355) = some r := H
  have A8 := Aside0.mk A80
  clear A80
  obtain rfl := Option.some.inj H
  go_enter Try.func44, Try.ntmps44
  go_wp2_with (first | ((with_reducible refine gate_callee (f := 55) rfl ?_); refine goesL_ (some 5) rfl rfl Try.func55 (by kernel_rfl) rfl #[.int .i64 a0] rfl (by (try simp only [List.map_toArray, List.map_cons, List.map_nil]); first | done | rfl | (simp only [List.length_drop, List.length_take]; rfl)) ?_; (with_reducible refine (mapsheetsref11_modulo.calls a0 t352 _ A2.out).mono ?_); rintro e w' ⟨rfl, ⟨nd, rfl⟩⟩; refine ⟨_, rfl, ?_⟩) | ((with_reducible refine gate_callee (f := 57) rfl ?_); refine goesL_ (some 16) rfl rfl Try.func57 (by kernel_rfl) rfl #[.int .i64 ji6] rfl (by (try simp only [List.map_toArray, List.map_cons, List.map_nil]); first | done | (simp only [hji6]; rfl) | rfl | (simp only [List.length_drop, List.length_take]; rfl)) ?_; (with_reducible refine (mapsheetsref11_fine.calls k ji6 t354 _ A7.out).mono ?_); rintro e w' ⟨rfl, ⟨nd, rfl⟩⟩; refine ⟨_, rfl, ?_⟩) | ((with_reducible refine gate_callee (f := 56) rfl ?_); refine goesL_ (some 17) rfl rfl Try.func56 (by kernel_rfl) rfl #[.int .i64 t354, .int .i64 1073741824] rfl (by (try simp only [List.map_toArray, List.map_cons, List.map_nil]); first | done | rfl | (simp only [List.length_drop, List.length_take]; rfl)) ?_; (with_reducible refine (mapsheetsref11_rounded.calls t354 1073741824 t355 _ A8.out).mono ?_); rintro e w' ⟨rfl, ⟨nd, rfl⟩⟩; refine ⟨_, rfl, ?_⟩))
  go_ret
  exact ⟨by first | rfl | (simp [errW_none, errW_some] <;> rfl) | (simp only [← hji6]; first | rfl | (simp [errW_none, errW_some] <;> rfl)) | (simp [*, errW_none, errW_some] <;> rfl), by with_reducible repeat first | exact HB.out | apply ba | apply bn | apply bd⟩

/-! ### mapsheetsref11_Cos: function 43 -/
def mapsheetsref11_Cos.f (k : Nat) (a0 : Int) : Option (Int) := (mapsheetsref11_modulo.f a0).bind fun t356 => ((mapsheetsref11_Sin.f k (wrap64 (324000 - t356))).bind fun t357 => (some t357))
theorem mapsheetsref11_Cos.mono : ∀ a0 k, LeO (mapsheetsref11_Cos.f k a0) (mapsheetsref11_Cos.f (k + 1) a0) := by
 intro a0 k
 unfold mapsheetsref11_Cos.f
 repeat' first
   | (with_reducible exact mapsheetsref11_Sin.mono _ _)
   | (with_reducible exact LeO.refl _)
   | (with_reducible exact LeO.none _)
   | (with_reducible refine LeO.ite ?_ ?_)
   | (with_reducible refine LeO.bind ?_ (fun _ => ?_))
   | exact mapsheetsref11_Sin.mono _ _
   | exact LeO.none _
   | refine LeO.ite ?_ ?_
   | refine LeO.bind ?_ (fun _ => ?_)
set_option maxHeartbeats 8000000 in
set_option maxRecDepth 100000 in
theorem mapsheetsref11_Cos.calls (k : Nat) (a0 : Int) (r : Int) (w : World) (h : mapsheetsref11_Cos.f k a0 = some r) :
  Calls Try.prog 43 #[.int .i64 a0] w fun e w' => e = .returned (.int .i64 r) ∧ Below w.heap.size w w' := by
 have HB := Aside0.mk (Below.refl w.heap.size w)
 have H : ((mapsheetsref11_modulo.f a0).bind fun t356 => ((mapsheetsref11_Sin.f k (wrap64 (324000 - t356))).bind fun t357 => (some t357))) = some r := h
 clear h
 replace H := Option.bind_eq_some_iff.mp H
 obtain ⟨t356, A20, H⟩ := H
 replace H : ((mapsheetsref11_Sin.f k (wrap64 (324000 - t356))).bind fun t357 => (some t357)) = some r := H
 have A2 := Aside0.mk A20
 clear A20
 replace H := Option.bind_eq_some_iff.mp H
 obtain ⟨t357, A30, H⟩ := H
 replace H : (some t357) = some r := H
 have A3 := Aside0.mk A30
 clear A30
 obtain rfl := Option.some.inj H
 go_enter Try.func43, Try.ntmps43
 go_wp2_with (first | ((with_reducible refine gate_callee (f := 55) rfl ?_); refine goesL_ (some 4) rfl rfl Try.func55 (by kernel_rfl) rfl #[.int .i64 a0] rfl (by (try simp only [List.map_toArray, List.map_cons, List.map_nil]); first | done | rfl | (simp only [List.length_drop, List.length_take]; rfl)) ?_; (with_reducible refine (mapsheetsref11_modulo.calls a0 t356 _ A2.out).mono ?_); rintro e w' ⟨rfl, ⟨nd, rfl⟩⟩; refine ⟨_, rfl, ?_⟩) | ((with_reducible refine gate_callee (f := 44) rfl ?_); refine goesL_ (some 6) rfl rfl Try.func44 (by kernel_rfl) rfl #[.int .i64 (wrap64 (324000 - t356))] rfl (by (try simp only [List.map_toArray, List.map_cons, List.map_nil]); first | done | rfl | (simp only [List.length_drop, List.length_take]; rfl)) ?_; (with_reducible refine (mapsheetsref11_Sin.calls k (wrap64 (324000 - t356)) t357 _ A3.out).mono ?_); rintro e w4 ⟨rfl, hb⟩; refine ⟨_, rfl, ?_⟩; have n0_ := Aside0.mk (below_step (by with_reducible repeat first | exact HB.out | apply ba | apply bn | apply bd) hb); clear HB; have HB := n0_; clear n0_; (try clear hb); (try clear hb2); (try clear hk); (try clear hi)))
 go_ret
 exact ⟨by first | rfl | (simp [errW_none, errW_some] <;> rfl) | (simp [*, errW_none, errW_some] <;> rfl), by with_reducible repeat first | exact HB.out | apply ba | apply bn | apply bd⟩

end Go.Proofs.Yteojklacaecmpaa.P
