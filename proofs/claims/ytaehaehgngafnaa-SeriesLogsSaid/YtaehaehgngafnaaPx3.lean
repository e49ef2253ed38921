-- Written by wip/tools/xprint.py (this session's program, over the kit's print.py) for this seat.
import Derived.Test.YtaehaehgngafnaaPx0
import Derived.Test.YtaehaehgngafnaaPx1
import Derived.Test.YtaehaehgngafnaaPx2
namespace Go.Proofs.Ytaehaehgngafnaa.P
open Go.RowKit Go.Proofs.YtaehaehgngafnaaW.PrintWords Go.Proofs.YtaehaehgngafnaaW.PrintLast Go.Proofs.YtaehaehgngafnaaW.PrintMore
attribute [local go_sem] max2_int min2_int max_two min_two max_three min_three max_four min_four   -- for this text's walks alone
set_option linter.unusedVariables false
set_option linter.unusedSimpArgs false

/-! ### series_sine: function 30 -/
def series_sine.l0 : Nat → Int → Int → Int → Int → Option (Int)
  | 0, _, _, _, _ => none
  | k + 1, x3, x4, x5, x13 => if x13 < 13 then (if 0 ≤ x13 then ((series_muldiv.f k x4 x3 1152921504606846976).bind fun t126 => ((series_muldiv.f k t126 x3 1152921504606846976).bind fun t127 => (if (rd [6, 20, 42, 72, 110, 156, 210, 272, 342, 420, 506, 600, 702] x13) = 0 then (none) else (if (Int.tmod x13 2) = 0 then (series_sine.l0 k x3 (wrap64 (Int.tdiv t127 (rd [6, 20, 42, 72, 110, 156, 210, 272, 342, 420, 506, 600, 702] x13))) (wrap64 (x5 - (wrap64 (Int.tdiv t127 (rd [6, 20, 42, 72, 110, 156, 210, 272, 342, 420, 506, 600, 702] x13))))) (wrap64 (x13 + 1))) else (series_sine.l0 k x3 (wrap64 (Int.tdiv t127 (rd [6, 20, 42, 72, 110, 156, 210, 272, 342, 420, 506, 600, 702] x13))) (wrap64 (x5 + (wrap64 (Int.tdiv t127 (rd [6, 20, 42, 72, 110, 156, 210, 272, 342, 420, 506, 600, 702] x13))))) (wrap64 (x13 + 1))))))) else (none)) else (some x5)
def series_sine.f (k : Nat) (a0 : Int) : Option (Int) := (series_muldiv.f k a0 3622009729038561421 648000).bind fun t125 => ((series_divisors.f).bind fun _ => (series_sine.l0 k t125 t125 t125 0))
theorem series_sine.mono_l : ∀ k, (∀ y0 y1 y2 y3, LeO (series_sine.l0 k y0 y1 y2 y3) (series_sine.l0 (k + 1) y0 y1 y2 y3))
  | 0 => fun _ _ _ _ r h => by simp [series_sine.l0] at h
  | k + 1 => by
    have ih0 := series_sine.mono_l k
    · intro y0 y1 y2 y3
      unfold series_sine.l0
      repeat' first
      | (with_reducible exact ih0 _ _ _ _)
      | (with_reducible exact series_muldiv.mono _ _ _ _)
      | (with_reducible exact LeO.refl _)
      | (with_reducible exact LeO.none _)
      | (with_reducible refine LeO.ite ?_ ?_)
      | (with_reducible refine LeO.bind ?_ (fun _ => ?_))
      | exact ih0 _ _ _ _
      | exact series_muldiv.mono _ _ _ _
      | exact LeO.none _
      | refine LeO.ite ?_ ?_
      | refine LeO.bind ?_ (fun _ => ?_)
theorem series_sine.mono : ∀ a0 k, LeO (series_sine.f k a0) (series_sine.f (k + 1) a0) := by
  intro a0 k
  have ih0 := series_sine.mono_l k
  unfold series_sine.f
  repeat' first
      | (with_reducible exact ih0 _ _ _ _)
      | (with_reducible exact series_muldiv.mono _ _ _ _)
      | (with_reducible exact LeO.refl _)
      | (with_reducible exact LeO.none _)
      | (with_reducible refine LeO.ite ?_ ?_)
      | (with_reducible refine LeO.bind ?_ (fun _ => ?_))
      | exact ih0 _ _ _ _
      | exact series_muldiv.mono _ _ _ _
      | exact LeO.none _
      | refine LeO.ite ?_ ?_
      | refine LeO.bind ?_ (fun _ => ?_)
set_option maxHeartbeats 8000000 in
set_option maxRecDepth 100000 in
theorem series_sine.calls (k : Nat) (a0 : Int) (r : Int) (w : World) (h : series_sine.f k a0 = some r) :
    Calls Try.prog 30 #[.int .i64 a0] w fun e w' => e = .returned (.int .i64 r) ∧ Below w.heap.size w w' := by
  have HB := Aside0.mk (Below.refl w.heap.size w)
  have H : ((series_muldiv.f k a0 3622009729038561421 648000).bind fun t125 => ((series_divisors.f).bind fun _ => (series_sine.l0 k t125 t125 t125 0))) = some r := h
  clear h
  replace H := Option.bind_eq_some_iff.mp H
  obtain ⟨t125, A20, H⟩ := H
  replace H : ((series_divisors.f).bind fun _ => (series_sine.l0 k t125 t125 t125 0)) = some r := H
  have A2 := Aside0.mk A20
  clear A20
  replace H := Option.bind_eq_some_iff.mp H
  obtain ⟨_, A30, H⟩ := H
  replace H : (series_sine.l0 k t125 t125 t125 0) = some r := H
  have A3 := Aside0.mk A30
  clear A30
  have H' := Aside0.mk H
  clear H
  go_enter Try.func30, Try.ntmps30
  go_wp2_with (first | ((with_reducible refine gate_callee (f := 40) rfl ?_); refine goesL_ (some 9) rfl rfl Try.func40 (by kernel_rfl) rfl #[.int .i64 a0, .int .i64 3622009729038561421, .int .i64 648000] rfl (by (try simp only [List.map_toArray, List.map_cons, List.map_nil]); first | done | rfl | (simp only [List.length_drop, List.length_take]; rfl)) ?_; (with_reducible refine (series_muldiv.calls k a0 3622009729038561421 648000 t125 _ A2.out).mono ?_); rintro e w' ⟨rfl, ⟨nd, rfl⟩⟩; refine ⟨_, rfl, ?_⟩) | ((with_reducible refine gate_callee (f := 41) rfl ?_); refine goesL_ (some 12) rfl rfl Try.func41 (by kernel_rfl) rfl #[] rfl (by (try simp only [List.map_toArray, List.map_cons, List.map_nil]); first | done | rfl | (simp only [List.length_drop, List.length_take]; rfl)) ?_; (with_reducible refine (series_divisors.calls   _ A3.out).mono ?_); rintro e w4 ⟨rfl, hb⟩; refine ⟨_, rfl, ?_⟩; have n0_ := Aside0.mk (below_step (by repeat (first | (with_reducible first | exact HB.out | apply below_alloc | apply pw_below_drewN | apply below_drew1) | exact HB.out)) hb); clear HB; have HB := n0_; clear n0_; (try clear hb); (try clear hb2); (try clear hk); (try clear hi)))
  go_loopg [4, 5, 13] k (fun kq v4 v5 v13 w' => ∃ (x4_1 : Int) (x5_1 : Int) (x13_1 : Int), v4 = .int .i64 x4_1 ∧ v5 = .int .i64 x5_1 ∧ v13 = .int .i64 x13_1 ∧ Aside0 (series_sine.l0 kq t125 x4_1 x5_1 x13_1 = some r) ∧ Aside0 (kq ≤ k) ∧ Aside0 (Below w.heap.size w w'))
  case atStart => exact ⟨(t125), (t125), (0), (by first | rfl | (simp; done) | (simp [*]; done)), (by first | rfl | (simp; done) | (simp [*]; done)), (by first | rfl | (simp; done) | (simp [*]; done)), H', ⟨Nat.le_refl _⟩, ⟨by repeat (first | (with_reducible first | exact HB.out | apply below_alloc | apply pw_below_drewN | apply below_drew1) | exact HB.out)⟩⟩
  case round =>
    clear H'
    try clear p2
    try clear c3
    try clear c4
    obtain ⟨x4_1, x5_1, x13_1, rfl, rfl, rfl, HA, HK1, HB⟩ := hrel
    cases gk with
    | zero => exact absurd HA.out (by simp [series_sine.l0])
    | succ k1 =>
      have H := HA.out
      clear HA
      simp only [series_sine.l0] at H
      by_cases c5 : x13_1 < 13
      · rw [if_pos c5] at H
        have c5b0 : decide (x13_1 < 13) = true := decide_eq_true c5
        clear c5
        by_cases c6 : 0 ≤ x13_1
        · rw [if_pos c6] at H
          have c6b0 : decide (0 ≤ x13_1) = true := decide_eq_true c6
          clear c6
          replace H := Option.bind_eq_some_iff.mp H
          obtain ⟨t126, A80, H⟩ := H
          replace H : ((series_muldiv.f k1 t126 t125 1152921504606846976).bind fun t127 => (if (rd [6, 20, 42, 72, 110, 156, 210, 272, 342, 420, 506, 600, 702] x13_1) = 0 then (none) else (if (Int.tmod x13_1 2) = 0 then (series_sine.l0 k1 t125 (wrap64 (Int.tdiv t127 (rd [6, 20, 42, 72, 110, 156, 210, 272, 342, 420, 506, 600, 702] x13_1))) (wrap64 (x5_1 - (wrap64 (Int.tdiv t127 (rd [6, 20, 42, 72, 110, 156, 210, 272, 342, 420, 506, 600, 702] x13_1))))) (wrap64 (x13_1 + 1))) else (series_sine.l0 k1 t125 (wrap64 (Int.tdiv t127 (rd [6, 20, 42, 72, 110, 156, 210, 272, 342, 420, 506, 600, 702] x13_1))) (wrap64 (x5_1 + (wrap64 (Int.tdiv t127 (rd [6, 20, 42, 72, 110, 156, 210, 272, 342, 420, 506, 600, 702] x13_1))))) (wrap64 (x13_1 + 1)))))) = some r := H
          have A8 := Aside0.mk A80
          clear A80
          replace H := Option.bind_eq_some_iff.mp H
          obtain ⟨t127, A90, H⟩ := H
          replace H : (if (rd [6, 20, 42, 72, 110, 156, 210, 272, 342, 420, 506, 600, 702] x13_1) = 0 then (none) else (if (Int.tmod x13_1 2) = 0 then (series_sine.l0 k1 t125 (wrap64 (Int.tdiv t127 (rd [6, 20, 42, 72, 110, 156, 210, 272, 342, 420, 506, 600, 702] x13_1))) (wrap64 (x5_1 - (wrap64 (Int.tdiv t127 (rd [6, 20, 42, 72, 110, 156, 210, 272, 342, 420, 506, 600, 702] x13_1))))) (wrap64 (x13_1 + 1))) else (series_sine.l0 k1 t125 (wrap64 (Int.tdiv t127 (rd [6, 20, 42, 72, 110, 156, 210, 272, 342, 420, 506, 600, 702] x13_1))) (wrap64 (x5_1 + (wrap64 (Int.tdiv t127 (rd [6, 20, 42, 72, 110, 156, 210, 272, 342, 420, 506, 600, 702] x13_1))))) (wrap64 (x13_1 + 1))))) = some r := H
          have A9 := Aside0.mk A90
          clear A90
          by_cases c10 : (rd [6, 20, 42, 72, 110, 156, 210, 272, 342, 420, 506, 600, 702] x13_1) = 0
          · rw [if_pos c10] at H
            exact absurd H (by simp)
          · rw [if_neg c10] at H
            have c10b0 : ((rd [6, 20, 42, 72, 110, 156, 210, 272, 342, 420, 506, 600, 702] x13_1) == 0) = false := beq_eq_false_iff_ne.mpr c10
            have c10b1 : ((rd [6, 20, 42, 72, 110, 156, 210, 272, 342, 420, 506, 600, 702] x13_1) != 0) = true := bne_iff_ne.mpr c10
            by_cases c11 : (Int.tmod x13_1 2) = 0
            · rw [if_pos c11] at H
              have c11b0 : ((Int.tmod x13_1 2) == 0) = true := beq_iff_eq.mpr c11
              have c11b1 : ((Int.tmod x13_1 2) != 0) = false := bne_eq_false_iff_eq.mpr c11
              clear c11
              have H' := Aside0.mk H
              clear H
              have p7 : 0 ≤ (x13_1 : Int) := of_decide_eq_true (by first | (with_reducible assumption) | assumption)
              have q7 : x13_1 < (13 : Int) := of_decide_eq_true (by first | (with_reducible assumption) | assumption)
              have hx7 : ∀ W_ : World, (Instr.index 37 (.agg #[.int .i64 6, .int .i64 20, .int .i64 42, .int .i64 72, .int .i64 110, .int .i64 156, .int .i64 210, .int .i64 272, .int .i64 342, .int .i64 420, .int .i64 506, .int .i64 600, .int .i64 702]) (.int .i64 x13_1)).run Try.prog W_ = .ok (.int .i64 (rd [6, 20, 42, 72, 110, 156, 210, 272, 342, 420, 506, 600, 702] x13_1)) W_ := (by intro W_; generalize x13_1 = jj_ at p7 q7 ⊢; rcases (show jj_ = 0 ∨ jj_ = 1 ∨ jj_ = 2 ∨ jj_ = 3 ∨ jj_ = 4 ∨ jj_ = 5 ∨ jj_ = 6 ∨ jj_ = 7 ∨ jj_ = 8 ∨ jj_ = 9 ∨ jj_ = 10 ∨ jj_ = 11 ∨ jj_ = 12 by omega) with hj_ | hj_ | hj_ | hj_ | hj_ | hj_ | hj_ | hj_ | hj_ | hj_ | hj_ | hj_ | hj_ <;> subst hj_ <;> (show _ = _; kernel_rfl))
              replace p7 := eq_true p7
              replace q7 := eq_true q7
              go_wp2_with (first | ((with_reducible refine gate_callee (f := 40) rfl ?_); refine goesL_ (some 19) rfl rfl Try.func40 (by kernel_rfl) rfl #[.int .i64 x4_1, .int .i64 t125, .int .i64 1152921504606846976] rfl (by (try simp only [List.map_toArray, List.map_cons, List.map_nil]); first | done | rfl | (simp only [List.length_drop, List.length_take]; rfl)) ?_; (with_reducible refine (series_muldiv.calls k1 x4_1 t125 1152921504606846976 t126 _ A8.out).mono ?_); rintro e w' ⟨rfl, ⟨nd, rfl⟩⟩; refine ⟨_, rfl, ?_⟩) | ((with_reducible refine gate_callee (f := 40) rfl ?_); refine goesL_ (some 21) rfl rfl Try.func40 (by kernel_rfl) rfl #[.int .i64 t126, .int .i64 t125, .int .i64 1152921504606846976] rfl (by (try simp only [List.map_toArray, List.map_cons, List.map_nil]); first | done | rfl | (simp only [List.length_drop, List.length_take]; rfl)) ?_; (with_reducible refine (series_muldiv.calls k1 t126 t125 1152921504606846976 t127 _ A9.out).mono ?_); rintro e w' ⟨rfl, ⟨nd, rfl⟩⟩; refine ⟨_, rfl, ?_⟩))
              go_roundg k1
              case measure => have := HK1.out; omega
              case rel => exact ⟨(wrap64 (Int.tdiv t127 (rd [6, 20, 42, 72, 110, 156, 210, 272, 342, 420, 506, 600, 702] x13_1))), (wrap64 (x5_1 - (wrap64 (Int.tdiv t127 (rd [6, 20, 42, 72, 110, 156, 210, 272, 342, 420, 506, 600, 702] x13_1))))), (wrap64 (x13_1 + 1)), (by first | rfl | (simp; done) | (simp [*]; done)), (by first | rfl | (simp; done) | (simp [*]; done)), (by first | rfl | (simp; done) | (simp [*]; done)), H', ⟨by have := HK1.out; omega⟩, ⟨by repeat (first | (with_reducible first | exact HB.out | apply below_alloc | apply pw_below_drewN | apply below_drew1) | exact HB.out)⟩⟩
            · rw [if_neg c11] at H
              have c11b0 : ((Int.tmod x13_1 2) == 0) = false := beq_eq_false_iff_ne.mpr c11
              have c11b1 : ((Int.tmod x13_1 2) != 0) = true := bne_iff_ne.mpr c11
              have H' := Aside0.mk H
              clear H
              have p7 : 0 ≤ (x13_1 : Int) := of_decide_eq_true (by first | (with_reducible assumption) | assumption)
              have q7 : x13_1 < (13 : Int) := of_decide_eq_true (by first | (with_reducible assumption) | assumption)
              have hx7 : ∀ W_ : World, (Instr.index 37 (.agg #[.int .i64 6, .int .i64 20, .int .i64 42, .int .i64 72, .int .i64 110, .int .i64 156, .int .i64 210, .int .i64 272, .int .i64 342, .int .i64 420, .int .i64 506, .int .i64 600, .int .i64 702]) (.int .i64 x13_1)).run Try.prog W_ = .ok (.int .i64 (rd [6, 20, 42, 72, 110, 156, 210, 272, 342, 420, 506, 600, 702] x13_1)) W_ := (by intro W_; generalize x13_1 = jj_ at p7 q7 ⊢; rcases (show jj_ = 0 ∨ jj_ = 1 ∨ jj_ = 2 ∨ jj_ = 3 ∨ jj_ = 4 ∨ jj_ = 5 ∨ jj_ = 6 ∨ jj_ = 7 ∨ jj_ = 8 ∨ jj_ = 9 ∨ jj_ = 10 ∨ jj_ = 11 ∨ jj_ = 12 by omega) with hj_ | hj_ | hj_ | hj_ | hj_ | hj_ | hj_ | hj_ | hj_ | hj_ | hj_ | hj_ | hj_ <;> subst hj_ <;> (show _ = _; kernel_rfl))
              replace p7 := eq_true p7
              replace q7 := eq_true q7
              go_wp2_with (first | ((with_reducible refine gate_callee (f := 40) rfl ?_); refine goesL_ (some 19) rfl rfl Try.func40 (by kernel_rfl) rfl #[.int .i64 x4_1, .int .i64 t125, .int .i64 1152921504606846976] rfl (by (try simp only [List.map_toArray, List.map_cons, List.map_nil]); first | done | rfl | (simp only [List.length_drop, List.length_take]; rfl)) ?_; (with_reducible refine (series_muldiv.calls k1 x4_1 t125 1152921504606846976 t126 _ A8.out).mono ?_); rintro e w' ⟨rfl, ⟨nd, rfl⟩⟩; refine ⟨_, rfl, ?_⟩) | ((with_reducible refine gate_callee (f := 40) rfl ?_); refine goesL_ (some 21) rfl rfl Try.func40 (by kernel_rfl) rfl #[.int .i64 t126, .int .i64 t125, .int .i64 1152921504606846976] rfl (by (try simp only [List.map_toArray, List.map_cons, List.map_nil]); first | done | rfl | (simp only [List.length_drop, List.length_take]; rfl)) ?_; (with_reducible refine (series_muldiv.calls k1 t126 t125 1152921504606846976 t127 _ A9.out).mono ?_); rintro e w' ⟨rfl, ⟨nd, rfl⟩⟩; refine ⟨_, rfl, ?_⟩))
              go_roundg k1
              case measure => have := HK1.out; omega
              case rel => exact ⟨(wrap64 (Int.tdiv t127 (rd [6, 20, 42, 72, 110, 156, 210, 272, 342, 420, 506, 600, 702] x13_1))), (wrap64 (x5_1 + (wrap64 (Int.tdiv t127 (rd [6, 20, 42, 72, 110, 156, 210, 272, 342, 420, 506, 600, 702] x13_1))))), (wrap64 (x13_1 + 1)), (by first | rfl | (simp; done) | (simp [*]; done)), (by first | rfl | (simp; done) | (simp [*]; done)), (by first | rfl | (simp; done) | (simp [*]; done)), H', ⟨by have := HK1.out; omega⟩, ⟨by repeat (first | (with_reducible first | exact HB.out | apply below_alloc | apply pw_below_drewN | apply below_drew1) | exact HB.out)⟩⟩
        · rw [if_neg c6] at H
          exact absurd H (by simp)
      · rw [if_neg c5] at H
        have c5b0 : decide (x13_1 < 13) = false := decide_eq_false c5
        clear c5
        obtain rfl := Option.some.inj H
        go_wp2
        go_ret
        exact ⟨by first | rfl | (simp [errW_none, errW_some] <;> rfl) | (simp [*, errW_none, errW_some] <;> rfl), by repeat (first | (with_reducible first | exact HB.out | apply below_alloc | apply pw_below_drewN | apply below_drew1) | exact HB.out)⟩

/-! ### series_Sin: function 14 -/
def series_Sin.f : Nat → Int → Option (Int)
  | 0, _ => none
  | k + 1, a0 => (series_circle.f a0).bind fun t128 => (if t128 > 648000 then ((series_Sin.f k (wrap64 (1296000 - t128))).bind fun t129 => (some (wrap64 (-t129)))) else (if t128 > 324000 then ((series_sine.f k (wrap64 (648000 - t128))).bind fun t130 => (some ((wrap64 (t130 + 536870912)) / 1073741824))) else ((series_sine.f k t128).bind fun t131 => (some ((wrap64 (t131 + 536870912)) / 1073741824)))))
theorem series_Sin.mono_l : ∀ k, (∀ y0, LeO (series_Sin.f k y0) (series_Sin.f (k + 1) y0))
  | 0 => fun _ r h => by simp [series_Sin.f] at h
  | k + 1 => by
    have ih0 := series_Sin.mono_l k
    · intro y0
      unfold series_Sin.f
      repeat' first
      | (with_reducible exact ih0 _)
      | (with_reducible exact series_sine.mono _ _)
      | (with_reducible exact LeO.refl _)
      | (with_reducible exact LeO.none _)
      | (with_reducible refine LeO.ite ?_ ?_)
      | (with_reducible refine LeO.bind ?_ (fun _ => ?_))
      | exact ih0 _
      | exact series_sine.mono _ _
      | exact LeO.none _
      | refine LeO.ite ?_ ?_
      | refine LeO.bind ?_ (fun _ => ?_)
theorem series_Sin.mono : ∀ a0 k, LeO (series_Sin.f k a0) (series_Sin.f (k + 1) a0) := by
  intro a0 k
  have ih0 := series_Sin.mono_l k
  exact ih0 a0
set_option maxHeartbeats 8000000 in
set_option maxRecDepth 100000 in
theorem series_Sin.calls (k : Nat) : ∀ (a0 : Int) (r : Int) (w : World) (h : series_Sin.f k a0 = some r),
    Calls Try.prog 14 #[.int .i64 a0] w fun e w' => e = .returned (.int .i64 r) ∧ Below w.heap.size w w' := by
  induction k using Nat.strongRecOn with
  | _ k ih =>
  intro a0 r w h
  cases k with
  | zero => exact absurd h (by simp [series_Sin.f])
  | succ k =>
  simp only [series_Sin.f] at h
  have HB := Aside0.mk (Below.refl w.heap.size w)
  have H : ((series_circle.f a0).bind fun t128 => (if t128 > 648000 then ((series_Sin.f k (wrap64 (1296000 - t128))).bind fun t129 => (some (wrap64 (-t129)))) else (if t128 > 324000 then ((series_sine.f k (wrap64 (648000 - t128))).bind fun t130 => (some ((wrap64 (t130 + 536870912)) / 1073741824))) else ((series_sine.f k t128).bind fun t131 => (some ((wrap64 (t131 + 536870912)) / 1073741824)))))) = some r := h
  clear h
  replace H := Option.bind_eq_some_iff.mp H
  obtain ⟨t128, A20, H⟩ := H
  replace H : (if t128 > 648000 then ((series_Sin.f k (wrap64 (1296000 - t128))).bind fun t129 => (some (wrap64 (-t129)))) else (if t128 > 324000 then ((series_sine.f k (wrap64 (648000 - t128))).bind fun t130 => (some ((wrap64 (t130 + 536870912)) / 1073741824))) else ((series_sine.f k t128).bind fun t131 => (some ((wrap64 (t131 + 536870912)) / 1073741824))))) = some r := H
  have A2 := Aside0.mk A20
  clear A20
  by_cases c3 : t128 > 648000
  · rw [if_pos c3] at H
    have c3b0 : decide (648000 < t128) = true := decide_eq_true c3
    clear c3
    replace H := Option.bind_eq_some_iff.mp H
    obtain ⟨t129, A40, H⟩ := H
    replace H : (some (wrap64 (-t129))) = some r := H
    have A4 := Aside0.mk A40
    clear A40
    obtain rfl := Option.some.inj H
    go_enter Try.func14, Try.ntmps14
    go_wp2_with (first | ((with_reducible refine gate_callee (f := 29) rfl ?_); refine goesL_ (some 5) rfl rfl Try.func29 (by kernel_rfl) rfl #[.int .i64 a0] rfl (by (try simp only [List.map_toArray, List.map_cons, List.map_nil]); first | done | rfl | (simp only [List.length_drop, List.length_take]; rfl)) ?_; (with_reducible refine (series_circle.calls a0 t128 _ A2.out).mono ?_); rintro e w' ⟨rfl, ⟨nd, rfl⟩⟩; refine ⟨_, rfl, ?_⟩) | ((with_reducible refine gate_callee (f := 14) rfl ?_); refine goesL_ (some 10) rfl rfl Try.func14 (by kernel_rfl) rfl #[.int .i64 (wrap64 (1296000 - t128))] rfl (by (try simp only [List.map_toArray, List.map_cons, List.map_nil]); first | done | rfl | (simp only [List.length_drop, List.length_take]; rfl)) ?_; (with_reducible refine (ih k (by omega) (wrap64 (1296000 - t128)) t129 _ A4.out).mono ?_); rintro e w5 ⟨rfl, hb⟩; refine ⟨_, rfl, ?_⟩; have n0_ := Aside0.mk (below_step (by repeat (first | (with_reducible first | exact HB.out | apply below_alloc | apply pw_below_drewN | apply below_drew1) | exact HB.out)) hb); clear HB; have HB := n0_; clear n0_; (try clear hb); (try clear hb2); (try clear hk); (try clear hi)))
    go_ret
    exact ⟨by first | rfl | (simp [errW_none, errW_some] <;> rfl) | (simp [*, errW_none, errW_some] <;> rfl), by repeat (first | (with_reducible first | exact HB.out | apply below_alloc | apply pw_below_drewN | apply below_drew1) | exact HB.out)⟩
  · rw [if_neg c3] at H
    have c3b0 : decide (648000 < t128) = false := decide_eq_false c3
    clear c3
    by_cases c6 : t128 > 324000
    · rw [if_pos c6] at H
      have c6b0 : decide (324000 < t128) = true := decide_eq_true c6
      clear c6
      replace H := Option.bind_eq_some_iff.mp H
      obtain ⟨t130, A70, H⟩ := H
      replace H : (some ((wrap64 (t130 + 536870912)) / 1073741824)) = some r := H
      have A7 := Aside0.mk A70
      clear A70
      obtain rfl := Option.some.inj H
      go_enter Try.func14, Try.ntmps14
      go_wp2_with (first | ((with_reducible refine gate_callee (f := 29) rfl ?_); refine goesL_ (some 5) rfl rfl Try.func29 (by kernel_rfl) rfl #[.int .i64 a0] rfl (by (try simp only [List.map_toArray, List.map_cons, List.map_nil]); first | done | rfl | (simp only [List.length_drop, List.length_take]; rfl)) ?_; (with_reducible refine (series_circle.calls a0 t128 _ A2.out).mono ?_); rintro e w' ⟨rfl, ⟨nd, rfl⟩⟩; refine ⟨_, rfl, ?_⟩) | ((with_reducible refine gate_callee (f := 30) rfl ?_); refine goesL_ (some 17) rfl rfl Try.func30 (by kernel_rfl) rfl #[.int .i64 (wrap64 (648000 - t128))] rfl (by (try simp only [List.map_toArray, List.map_cons, List.map_nil]); first | done | rfl | (simp only [List.length_drop, List.length_take]; rfl)) ?_; (with_reducible refine (series_sine.calls k (wrap64 (648000 - t128)) t130 _ A7.out).mono ?_); rintro e w8 ⟨rfl, hb⟩; refine ⟨_, rfl, ?_⟩; have n0_ := Aside0.mk (below_step (by repeat (first | (with_reducible first | exact HB.out | apply below_alloc | apply pw_below_drewN | apply below_drew1) | exact HB.out)) hb); clear HB; have HB := n0_; clear n0_; (try clear hb); (try clear hb2); (try clear hk); (try clear hi)))
      go_ret
      exact ⟨by first | rfl | (simp [errW_none, errW_some] <;> rfl) | (simp [*, errW_none, errW_some] <;> rfl), by repeat (first | (with_reducible first | exact HB.out | apply below_alloc | apply pw_below_drewN | apply below_drew1) | exact HB.out)⟩
    · rw [if_neg c6] at H
      have c6b0 : decide (324000 < t128) = false := decide_eq_false c6
      clear c6
      replace H := Option.bind_eq_some_iff.mp H
      obtain ⟨t131, A90, H⟩ := H
      replace H : (some ((wrap64 (t131 + 536870912)) / 1073741824)) = some r := H
      have A9 := Aside0.mk A90
      clear A90
      obtain rfl := Option.some.inj H
      go_enter Try.func14, Try.ntmps14
      go_wp2_with (first | ((with_reducible refine gate_callee (f := 29) rfl ?_); refine goesL_ (some 5) rfl rfl Try.func29 (by kernel_rfl) rfl #[.int .i64 a0] rfl (by (try simp only [List.map_toArray, List.map_cons, List.map_nil]); first | done | rfl | (simp only [List.length_drop, List.length_take]; rfl)) ?_; (with_reducible refine (series_circle.calls a0 t128 _ A2.out).mono ?_); rintro e w' ⟨rfl, ⟨nd, rfl⟩⟩; refine ⟨_, rfl, ?_⟩) | ((with_reducible refine gate_callee (f := 30) rfl ?_); refine goesL_ (some 17) rfl rfl Try.func30 (by kernel_rfl) rfl #[.int .i64 t128] rfl (by (try simp only [List.map_toArray, List.map_cons, List.map_nil]); first | done | rfl | (simp only [List.length_drop, List.length_take]; rfl)) ?_; (with_reducible refine (series_sine.calls k t128 t131 _ A9.out).mono ?_); rintro e w10 ⟨rfl, hb⟩; refine ⟨_, rfl, ?_⟩; have n0_ := Aside0.mk (below_step (by repeat (first | (with_reducible first | exact HB.out | apply below_alloc | apply pw_below_drewN | apply below_drew1) | exact HB.out)) hb); clear HB; have HB := n0_; clear n0_; (try clear hb); (try clear hb2); (try clear hk); (try clear hi)))
      go_ret
      exact ⟨by first | rfl | (simp [errW_none, errW_some] <;> rfl) | (simp [*, errW_none, errW_some] <;> rfl), by repeat (first | (with_reducible first | exact HB.out | apply below_alloc | apply pw_below_drewN | apply below_drew1) | exact HB.out)⟩

/-! ### mapsheetsref11_modulo: function 31 -/
def mapsheetsref11_modulo.f (a0 : Int) : Option (Int) := (mapsheetsref11_over.f a0 1296000).bind fun t132 => (some (wrap64 (a0 - (wrap64 (t132 * 1296000)))))
set_option maxHeartbeats 8000000 in
set_option maxRecDepth 100000 in
theorem mapsheetsref11_modulo.calls (a0 : Int) (r : Int) (w : World) (h : mapsheetsref11_modulo.f a0 = some r) :
    Calls Try.prog 31 #[.int .i64 a0] w fun e w' => e = .returned (.int .i64 r) ∧ Drawn0 w w' := by
  have H : ((mapsheetsref11_over.f a0 1296000).bind fun t132 => (some (wrap64 (a0 - (wrap64 (t132 * 1296000)))))) = some r := h
  clear h
  replace H := Option.bind_eq_some_iff.mp H
  obtain ⟨t132, A20, H⟩ := H
  replace H : (some (wrap64 (a0 - (wrap64 (t132 * 1296000))))) = some r := H
  have A2 := Aside0.mk A20
  clear A20
  obtain rfl := Option.some.inj H
  go_enter Try.func31, Try.ntmps31
  go_wp2_with (first | ((with_reducible refine gate_callee (f := 39) rfl ?_); refine goesL_ (some 5) rfl rfl Try.func39 (by kernel_rfl) rfl #[.int .i64 a0, .int .i64 1296000] rfl (by (try simp only [List.map_toArray, List.map_cons, List.map_nil]); first | done | rfl | (simp only [List.length_drop, List.length_take]; rfl)) ?_; (with_reducible refine (mapsheetsref11_over.calls a0 1296000 t132 _ A2.out).mono ?_); rintro e w' ⟨rfl, ⟨nd, rfl⟩⟩; refine ⟨_, rfl, ?_⟩))
  go_ret
  exact ⟨by first | rfl | (simp; done) | (simp [*]; done), by repeat (first | exact Drawn0.refl _ | apply Drawn0.step)⟩

/-! ### mapsheetsref11_half: function 42 -/
def mapsheetsref11_half.f (a0 : Int) (a1 : Int) (a2 : Int) : Option (Int) := if a2 = 0 then (none) else (some (wrap64 ((wrap64 ((wrap64 (Int.tdiv a0 a2)) * (wrap64 (Int.tdiv a1 a2)))) + (wrap64 (Int.tdiv (wrap64 ((wrap64 ((wrap64 ((wrap64 (Int.tdiv a0 a2)) * (Int.tmod a1 a2))) + (wrap64 ((Int.tmod a0 a2) * (wrap64 (Int.tdiv a1 a2)))))) + (wrap64 (Int.tdiv (wrap64 ((Int.tmod a0 a2) * (Int.tmod a1 a2))) a2)))) a2)))))
set_option maxHeartbeats 8000000 in
set_option maxRecDepth 100000 in
theorem mapsheetsref11_half.calls (a0 : Int) (a1 : Int) (a2 : Int) (r : Int) (w : World) (h : mapsheetsref11_half.f a0 a1 a2 = some r) :
    Calls Try.prog 42 #[.int .i64 a0, .int .i64 a1, .int .i64 a2] w fun e w' => e = .returned (.int .i64 r) ∧ Drawn0 w w' := by
  have H : (if a2 = 0 then (none) else (some (wrap64 ((wrap64 ((wrap64 (Int.tdiv a0 a2)) * (wrap64 (Int.tdiv a1 a2)))) + (wrap64 (Int.tdiv (wrap64 ((wrap64 ((wrap64 ((wrap64 (Int.tdiv a0 a2)) * (Int.tmod a1 a2))) + (wrap64 ((Int.tmod a0 a2) * (wrap64 (Int.tdiv a1 a2)))))) + (wrap64 (Int.tdiv (wrap64 ((Int.tmod a0 a2) * (Int.tmod a1 a2))) a2)))) a2)))))) = some r := h
  clear h
  by_cases c4 : a2 = 0
  · rw [if_pos c4] at H
    exact absurd H (by simp)
  · rw [if_neg c4] at H
    have c4b0 : (a2 == 0) = false := beq_eq_false_iff_ne.mpr c4
    have c4b1 : (a2 != 0) = true := bne_iff_ne.mpr c4
    obtain rfl := Option.some.inj H
    go_enter Try.func42, Try.ntmps42
    go_wp2
    repeat (go_quiet (fail); try go_wp2)
    go_ret
    exact ⟨by first | rfl | (simp; done) | (simp [*]; done), by repeat (first | exact Drawn0.refl _ | apply Drawn0.step)⟩

/-! ### mapsheetsref11_fine: function 32 -/
def mapsheetsref11_fine.l0 : Nat → Int → Int → Int → Int → Option (Int)
  | 0, _, _, _, _ => none
  | k + 1, x3, x4, x5, x6 => if x6 ≤ 13 then ((mapsheetsref11_half.f x5 x3 1073741824).bind fun t133 => ((mapsheetsref11_half.f t133 x3 1073741824).bind fun t134 => (if (wrap64 ((wrap64 (2 * x6)) * (wrap64 ((wrap64 (2 * x6)) + 1)))) = 0 then (none) else (if (Int.tmod x6 2) = 1 then (mapsheetsref11_fine.l0 k x3 (wrap64 (x4 - (wrap64 (Int.tdiv t134 (wrap64 ((wrap64 (2 * x6)) * (wrap64 ((wrap64 (2 * x6)) + 1)))))))) (wrap64 (Int.tdiv t134 (wrap64 ((wrap64 (2 * x6)) * (wrap64 ((wrap64 (2 * x6)) + 1)))))) (wrap64 (x6 + 1))) else (mapsheetsref11_fine.l0 k x3 (wrap64 (x4 + (wrap64 (Int.tdiv t134 (wrap64 ((wrap64 (2 * x6)) * (wrap64 ((wrap64 (2 * x6)) + 1)))))))) (wrap64 (Int.tdiv t134 (wrap64 ((wrap64 (2 * x6)) * (wrap64 ((wrap64 (2 * x6)) + 1)))))) (wrap64 (x6 + 1))))))) else (some x4)
def mapsheetsref11_fine.f (k : Nat) (a0 : Int) : Option (Int) := mapsheetsref11_fine.l0 k (wrap64 ((wrap64 (a0 * 5589521186787)) + (wrap64 (Int.tdiv (wrap64 (a0 * 585421)) 648000)))) (wrap64 ((wrap64 (a0 * 5589521186787)) + (wrap64 (Int.tdiv (wrap64 (a0 * 585421)) 648000)))) (wrap64 ((wrap64 (a0 * 5589521186787)) + (wrap64 (Int.tdiv (wrap64 (a0 * 585421)) 648000)))) 1
theorem mapsheetsref11_fine.mono_l : ∀ k, (∀ y0 y1 y2 y3, LeO (mapsheetsref11_fine.l0 k y0 y1 y2 y3) (mapsheetsref11_fine.l0 (k + 1) y0 y1 y2 y3))
  | 0 => fun _ _ _ _ r h => by simp [mapsheetsref11_fine.l0] at h
  | k + 1 => by
    have ih0 := mapsheetsref11_fine.mono_l k
    · intro y0 y1 y2 y3
      unfold mapsheetsref11_fine.l0
      repeat' first
      | (with_reducible exact ih0 _ _ _ _)
      | (with_reducible exact LeO.refl _)
      | (with_reducible exact LeO.none _)
      | (with_reducible refine LeO.ite ?_ ?_)
      | (with_reducible refine LeO.bind ?_ (fun _ => ?_))
      | exact ih0 _ _ _ _
      | exact LeO.none _
      | refine LeO.ite ?_ ?_
      | refine LeO.bind ?_ (fun _ => ?_)
theorem mapsheetsref11_fine.mono : ∀ a0 k, LeO (mapsheetsref11_fine.f k a0) (mapsheetsref11_fine.f (k + 1) a0) := by
  intro a0 k
  have ih0 := mapsheetsref11_fine.mono_l k
  unfold mapsheetsref11_fine.f
  repeat' first
      | (with_reducible exact ih0 _ _ _ _)
      | (with_reducible exact LeO.refl _)
      | (with_reducible exact LeO.none _)
      | (with_reducible refine LeO.ite ?_ ?_)
      | (with_reducible refine LeO.bind ?_ (fun _ => ?_))
      | exact ih0 _ _ _ _
      | exact LeO.none _
      | refine LeO.ite ?_ ?_
      | refine LeO.bind ?_ (fun _ => ?_)
set_option maxHeartbeats 8000000 in
set_option maxRecDepth 100000 in
theorem mapsheetsref11_fine.calls (k : Nat) (a0 : Int) (r : Int) (w : World) (h : mapsheetsref11_fine.f k a0 = some r) :
    Calls Try.prog 32 #[.int .i64 a0] w fun e w' => e = .returned (.int .i64 r) ∧ Drawn0 w w' := by
  have H : (mapsheetsref11_fine.l0 k (wrap64 ((wrap64 (a0 * 5589521186787)) + (wrap64 (Int.tdiv (wrap64 (a0 * 585421)) 648000)))) (wrap64 ((wrap64 (a0 * 5589521186787)) + (wrap64 (Int.tdiv (wrap64 (a0 * 585421)) 648000)))) (wrap64 ((wrap64 (a0 * 5589521186787)) + (wrap64 (Int.tdiv (wrap64 (a0 * 585421)) 648000)))) 1) = some r := h
  clear h
  have H' := Aside0.mk H
  clear H
  go_enter Try.func32, Try.ntmps32
  go_wp2
  go_loopg [4, 5, 6] k (fun kq v4 v5 v6 w' => ∃ (x4_1 : Int) (x5_1 : Int) (x6_1 : Int), v4 = .int .i64 x4_1 ∧ v5 = .int .i64 x5_1 ∧ v6 = .int .i64 x6_1 ∧ Aside0 (mapsheetsref11_fine.l0 kq (wrap64 ((wrap64 (a0 * 5589521186787)) + (wrap64 (Int.tdiv (wrap64 (a0 * 585421)) 648000)))) x4_1 x5_1 x6_1 = some r) ∧ Aside0 (kq ≤ k) ∧ Drawn0 w w')
  case atStart => exact ⟨(wrap64 ((wrap64 (a0 * 5589521186787)) + (wrap64 (Int.tdiv (wrap64 (a0 * 585421)) 648000)))), (wrap64 ((wrap64 (a0 * 5589521186787)) + (wrap64 (Int.tdiv (wrap64 (a0 * 585421)) 648000)))), (1), (by first | rfl | (simp; done) | (simp [*]; done)), (by first | rfl | (simp; done) | (simp [*]; done)), (by first | rfl | (simp; done) | (simp [*]; done)), H', ⟨Nat.le_refl _⟩, by repeat (first | exact Drawn0.refl _ | apply Drawn0.step)⟩
  case round =>
    clear H'
    obtain ⟨x4_1, x5_1, x6_1, rfl, rfl, rfl, HA, HK1, ⟨m1, rfl⟩⟩ := hrel
    cases gk with
    | zero => exact absurd HA.out (by simp [mapsheetsref11_fine.l0])
    | succ k1 =>
      have H := HA.out
      clear HA
      simp only [mapsheetsref11_fine.l0] at H
      by_cases c2 : x6_1 ≤ 13
      · rw [if_pos c2] at H
        have c2b0 : decide (x6_1 ≤ 13) = true := decide_eq_true c2
        clear c2
        replace H := Option.bind_eq_some_iff.mp H
        obtain ⟨t133, A30, H⟩ := H
        replace H : ((mapsheetsref11_half.f t133 (wrap64 ((wrap64 (a0 * 5589521186787)) + (wrap64 (Int.tdiv (wrap64 (a0 * 585421)) 648000)))) 1073741824).bind fun t134 => (if (wrap64 ((wrap64 (2 * x6_1)) * (wrap64 ((wrap64 (2 * x6_1)) + 1)))) = 0 then (none) else (if (Int.tmod x6_1 2) = 1 then (mapsheetsref11_fine.l0 k1 (wrap64 ((wrap64 (a0 * 5589521186787)) + (wrap64 (Int.tdiv (wrap64 (a0 * 585421)) 648000)))) (wrap64 (x4_1 - (wrap64 (Int.tdiv t134 (wrap64 ((wrap64 (2 * x6_1)) * (wrap64 ((wrap64 (2 * x6_1)) + 1)))))))) (wrap64 (Int.tdiv t134 (wrap64 ((wrap64 (2 * x6_1)) * (wrap64 ((wrap64 (2 * x6_1)) + 1)))))) (wrap64 (x6_1 + 1))) else (mapsheetsref11_fine.l0 k1 (wrap64 ((wrap64 (a0 * 5589521186787)) + (wrap64 (Int.tdiv (wrap64 (a0 * 585421)) 648000)))) (wrap64 (x4_1 + (wrap64 (Int.tdiv t134 (wrap64 ((wrap64 (2 * x6_1)) * (wrap64 ((wrap64 (2 * x6_1)) + 1)))))))) (wrap64 (Int.tdiv t134 (wrap64 ((wrap64 (2 * x6_1)) * (wrap64 ((wrap64 (2 * x6_1)) + 1)))))) (wrap64 (x6_1 + 1)))))) = some r := H
        have A3 := Aside0.mk A30
        clear A30
        replace H := Option.bind_eq_some_iff.mp H
        obtain ⟨t134, A40, H⟩ := H
        replace H : (if (wrap64 ((wrap64 (2 * x6_1)) * (wrap64 ((wrap64 (2 * x6_1)) + 1)))) = 0 then (none) else (if (Int.tmod x6_1 2) = 1 then (mapsheetsref11_fine.l0 k1 (wrap64 ((wrap64 (a0 * 5589521186787)) + (wrap64 (Int.tdiv (wrap64 (a0 * 585421)) 648000)))) (wrap64 (x4_1 - (wrap64 (Int.tdiv t134 (wrap64 ((wrap64 (2 * x6_1)) * (wrap64 ((wrap64 (2 * x6_1)) + 1)))))))) (wrap64 (Int.tdiv t134 (wrap64 ((wrap64 (2 * x6_1)) * (wrap64 ((wrap64 (2 * x6_1)) + 1)))))) (wrap64 (x6_1 + 1))) else (mapsheetsref11_fine.l0 k1 (wrap64 ((wrap64 (a0 * 5589521186787)) + (wrap64 (Int.tdiv (wrap64 (a0 * 585421)) 648000)))) (wrap64 (x4_1 + (wrap64 (Int.tdiv t134 (wrap64 ((wrap64 (2 * x6_1)) * (wrap64 ((wrap64 (2 * x6_1)) + 1)))))))) (wrap64 (Int.tdiv t134 (wrap64 ((wrap64 (2 * x6_1)) * (wrap64 ((wrap64 (2 * x6_1)) + 1)))))) (wrap64 (x6_1 + 1))))) = some r := H
        have A4 := Aside0.mk A40
        clear A40
        by_cases c5 : (wrap64 ((wrap64 (2 * x6_1)) * (wrap64 ((wrap64 (2 * x6_1)) + 1)))) = 0
        · rw [if_pos c5] at H
          exact absurd H (by simp)
        · rw [if_neg c5] at H
          have c5b0 : ((wrap64 ((wrap64 (2 * x6_1)) * (wrap64 ((wrap64 (2 * x6_1)) + 1)))) == 0) = false := beq_eq_false_iff_ne.mpr c5
          have c5b1 : ((wrap64 ((wrap64 (2 * x6_1)) * (wrap64 ((wrap64 (2 * x6_1)) + 1)))) != 0) = true := bne_iff_ne.mpr c5
          by_cases c6 : (Int.tmod x6_1 2) = 1
          · rw [if_pos c6] at H
            have c6b0 : ((Int.tmod x6_1 2) == 1) = true := beq_iff_eq.mpr c6
            have c6b1 : ((Int.tmod x6_1 2) != 1) = false := bne_eq_false_iff_eq.mpr c6
            clear c6
            have H' := Aside0.mk H
            clear H
            go_wp2_with (first | ((with_reducible refine gate_callee (f := 42) rfl ?_); refine goesL_ (some 21) rfl rfl Try.func42 (by kernel_rfl) rfl #[.int .i64 x5_1, .int .i64 (wrap64 ((wrap64 (a0 * 5589521186787)) + (wrap64 (Int.tdiv (wrap64 (a0 * 585421)) 648000)))), .int .i64 1073741824] rfl (by (try simp only [List.map_toArray, List.map_cons, List.map_nil]); first | done | rfl | (simp only [List.length_drop, List.length_take]; rfl)) ?_; (with_reducible refine (mapsheetsref11_half.calls x5_1 (wrap64 ((wrap64 (a0 * 5589521186787)) + (wrap64 (Int.tdiv (wrap64 (a0 * 585421)) 648000)))) 1073741824 t133 _ A3.out).mono ?_); rintro e w' ⟨rfl, ⟨nd, rfl⟩⟩; refine ⟨_, rfl, ?_⟩) | ((with_reducible refine gate_callee (f := 42) rfl ?_); refine goesL_ (some 23) rfl rfl Try.func42 (by kernel_rfl) rfl #[.int .i64 t133, .int .i64 (wrap64 ((wrap64 (a0 * 5589521186787)) + (wrap64 (Int.tdiv (wrap64 (a0 * 585421)) 648000)))), .int .i64 1073741824] rfl (by (try simp only [List.map_toArray, List.map_cons, List.map_nil]); first | done | rfl | (simp only [List.length_drop, List.length_take]; rfl)) ?_; (with_reducible refine (mapsheetsref11_half.calls t133 (wrap64 ((wrap64 (a0 * 5589521186787)) + (wrap64 (Int.tdiv (wrap64 (a0 * 585421)) 648000)))) 1073741824 t134 _ A4.out).mono ?_); rintro e w' ⟨rfl, ⟨nd, rfl⟩⟩; refine ⟨_, rfl, ?_⟩))
            go_roundg k1
            case measure => have := HK1.out; omega
            case rel => exact ⟨(wrap64 (x4_1 - (wrap64 (Int.tdiv t134 (wrap64 ((wrap64 (2 * x6_1)) * (wrap64 ((wrap64 (2 * x6_1)) + 1)))))))), (wrap64 (Int.tdiv t134 (wrap64 ((wrap64 (2 * x6_1)) * (wrap64 ((wrap64 (2 * x6_1)) + 1)))))), (wrap64 (x6_1 + 1)), (by first | rfl | (simp; done) | (simp [*]; done)), (by first | rfl | (simp; done) | (simp [*]; done)), (by first | rfl | (simp; done) | (simp [*]; done)), H', ⟨by have := HK1.out; omega⟩, by repeat (first | exact Drawn0.refl _ | apply Drawn0.step)⟩
          · rw [if_neg c6] at H
            have c6b0 : ((Int.tmod x6_1 2) == 1) = false := beq_eq_false_iff_ne.mpr c6
            have c6b1 : ((Int.tmod x6_1 2) != 1) = true := bne_iff_ne.mpr c6
            have H' := Aside0.mk H
            clear H
            go_wp2_with (first | ((with_reducible refine gate_callee (f := 42) rfl ?_); refine goesL_ (some 21) rfl rfl Try.func42 (by kernel_rfl) rfl #[.int .i64 x5_1, .int .i64 (wrap64 ((wrap64 (a0 * 5589521186787)) + (wrap64 (Int.tdiv (wrap64 (a0 * 585421)) 648000)))), .int .i64 1073741824] rfl (by (try simp only [List.map_toArray, List.map_cons, List.map_nil]); first | done | rfl | (simp only [List.length_drop, List.length_take]; rfl)) ?_; (with_reducible refine (mapsheetsref11_half.calls x5_1 (wrap64 ((wrap64 (a0 * 5589521186787)) + (wrap64 (Int.tdiv (wrap64 (a0 * 585421)) 648000)))) 1073741824 t133 _ A3.out).mono ?_); rintro e w' ⟨rfl, ⟨nd, rfl⟩⟩; refine ⟨_, rfl, ?_⟩) | ((with_reducible refine gate_callee (f := 42) rfl ?_); refine goesL_ (some 23) rfl rfl Try.func42 (by kernel_rfl) rfl #[.int .i64 t133, .int .i64 (wrap64 ((wrap64 (a0 * 5589521186787)) + (wrap64 (Int.tdiv (wrap64 (a0 * 585421)) 648000)))), .int .i64 1073741824] rfl (by (try simp only [List.map_toArray, List.map_cons, List.map_nil]); first | done | rfl | (simp only [List.length_drop, List.length_take]; rfl)) ?_; (with_reducible refine (mapsheetsref11_half.calls t133 (wrap64 ((wrap64 (a0 * 5589521186787)) + (wrap64 (Int.tdiv (wrap64 (a0 * 585421)) 648000)))) 1073741824 t134 _ A4.out).mono ?_); rintro e w' ⟨rfl, ⟨nd, rfl⟩⟩; refine ⟨_, rfl, ?_⟩))
            go_roundg k1
            case measure => have := HK1.out; omega
            case rel => exact ⟨(wrap64 (x4_1 + (wrap64 (Int.tdiv t134 (wrap64 ((wrap64 (2 * x6_1)) * (wrap64 ((wrap64 (2 * x6_1)) + 1)))))))), (wrap64 (Int.tdiv t134 (wrap64 ((wrap64 (2 * x6_1)) * (wrap64 ((wrap64 (2 * x6_1)) + 1)))))), (wrap64 (x6_1 + 1)), (by first | rfl | (simp; done) | (simp [*]; done)), (by first | rfl | (simp; done) | (simp [*]; done)), (by first | rfl | (simp; done) | (simp [*]; done)), H', ⟨by have := HK1.out; omega⟩, by repeat (first | exact Drawn0.refl _ | apply Drawn0.step)⟩
      · rw [if_neg c2] at H
        have c2b0 : decide (x6_1 ≤ 13) = false := decide_eq_false c2
        clear c2
        obtain rfl := Option.some.inj H
        go_wp2
        go_ret
        exact ⟨by first | rfl | (simp; done) | (simp [*]; done), by repeat (first | exact Drawn0.refl _ | apply Drawn0.step)⟩

/-! ### mapsheetsref11_Sin: function 15 -/
def mapsheetsref11_Sin.f : Nat → Int → Option (Int)
  | 0, _ => none
  | k + 1, a0 => (mapsheetsref11_modulo.f a0).bind fun t135 => (if t135 > 648000 then ((mapsheetsref11_Sin.f k (wrap64 (1296000 - t135))).bind fun t136 => (some (wrap64 (-t136)))) else ((mapsheetsref11_fine.f k (mn t135 (wrap64 (648000 - t135)))).bind fun t137 => ((mapsheetsref11_rounded.f t137 1073741824).bind fun t138 => (some t138))))
theorem mapsheetsref11_Sin.mono_l : ∀ k, (∀ y0, LeO (mapsheetsref11_Sin.f k y0) (mapsheetsref11_Sin.f (k + 1) y0))
  | 0 => fun _ r h => by simp [mapsheetsref11_Sin.f] at h
  | k + 1 => by
    have ih0 := mapsheetsref11_Sin.mono_l k
    · intro y0
      unfold mapsheetsref11_Sin.f
      repeat' first
      | (with_reducible exact ih0 _)
      | (with_reducible exact mapsheetsref11_fine.mono _ _)
      | (with_reducible exact LeO.refl _)
      | (with_reducible exact LeO.none _)
      | (with_reducible refine LeO.ite ?_ ?_)
      | (with_reducible refine LeO.bind ?_ (fun _ => ?_))
      | exact ih0 _
      | exact mapsheetsref11_fine.mono _ _
      | exact LeO.none _
      | refine LeO.ite ?_ ?_
      | refine LeO.bind ?_ (fun _ => ?_)
theorem mapsheetsref11_Sin.mono : ∀ a0 k, LeO (mapsheetsref11_Sin.f k a0) (mapsheetsref11_Sin.f (k + 1) a0) := by
  intro a0 k
  have ih0 := mapsheetsref11_Sin.mono_l k
  exact ih0 a0
set_option maxHeartbeats 8000000 in
set_option maxRecDepth 100000 in
theorem mapsheetsref11_Sin.calls (k : Nat) : ∀ (a0 : Int) (r : Int) (w : World) (h : mapsheetsref11_Sin.f k a0 = some r),
    Calls Try.prog 15 #[.int .i64 a0] w fun e w' => e = .returned (.int .i64 r) ∧ Below w.heap.size w w' := by
  induction k using Nat.strongRecOn with
  | _ k ih =>
  intro a0 r w h
  cases k with
  | zero => exact absurd h (by simp [mapsheetsref11_Sin.f])
  | succ k =>
  simp only [mapsheetsref11_Sin.f] at h
  have HB := Aside0.mk (Below.refl w.heap.size w)
  have H : ((mapsheetsref11_modulo.f a0).bind fun t135 => (if t135 > 648000 then ((mapsheetsref11_Sin.f k (wrap64 (1296000 - t135))).bind fun t136 => (some (wrap64 (-t136)))) else ((mapsheetsref11_fine.f k (mn t135 (wrap64 (648000 - t135)))).bind fun t137 => ((mapsheetsref11_rounded.f t137 1073741824).bind fun t138 => (some t138))))) = some r := h
  clear h
  replace H := Option.bind_eq_some_iff.mp H
  obtain ⟨t135, A20, H⟩ := H
  replace H : (if t135 > 648000 then ((mapsheetsref11_Sin.f k (wrap64 (1296000 - t135))).bind fun t136 => (some (wrap64 (-t136)))) else ((mapsheetsref11_fine.f k (mn t135 (wrap64 (648000 - t135)))).bind fun t137 => ((mapsheetsref11_rounded.f t137 1073741824).bind fun t138 => (some t138)))) = some r := H
  have A2 := Aside0.mk A20
  clear A20
  by_cases c3 : t135 > 648000
  · rw [if_pos c3] at H
    have c3b0 : decide (648000 < t135) = true := decide_eq_true c3
    clear c3
    replace H := Option.bind_eq_some_iff.mp H
    obtain ⟨t136, A40, H⟩ := H
    replace H : (some (wrap64 (-t136))) = some r := H
    have A4 := Aside0.mk A40
    clear A40
    obtain rfl := Option.some.inj H
    go_enter Try.func15, Try.ntmps15
    go_wp2_with (first | ((with_reducible refine gate_callee (f := 31) rfl ?_); refine goesL_ (some 5) rfl rfl Try.func31 (by kernel_rfl) rfl #[.int .i64 a0] rfl (by (try simp only [List.map_toArray, List.map_cons, List.map_nil]); first | done | rfl | (simp only [List.length_drop, List.length_take]; rfl)) ?_; (with_reducible refine (mapsheetsref11_modulo.calls a0 t135 _ A2.out).mono ?_); rintro e w' ⟨rfl, ⟨nd, rfl⟩⟩; refine ⟨_, rfl, ?_⟩) | ((with_reducible refine gate_callee (f := 15) rfl ?_); refine goesL_ (some 10) rfl rfl Try.func15 (by kernel_rfl) rfl #[.int .i64 (wrap64 (1296000 - t135))] rfl (by (try simp only [List.map_toArray, List.map_cons, List.map_nil]); first | done | rfl | (simp only [List.length_drop, List.length_take]; rfl)) ?_; (with_reducible refine (ih k (by omega) (wrap64 (1296000 - t135)) t136 _ A4.out).mono ?_); rintro e w5 ⟨rfl, hb⟩; refine ⟨_, rfl, ?_⟩; have n0_ := Aside0.mk (below_step (by repeat (first | (with_reducible first | exact HB.out | apply below_alloc | apply pw_below_drewN | apply below_drew1) | exact HB.out)) hb); clear HB; have HB := n0_; clear n0_; (try clear hb); (try clear hb2); (try clear hk); (try clear hi)))
    go_ret
    exact ⟨by first | rfl | (simp [errW_none, errW_some] <;> rfl) | (simp [*, errW_none, errW_some] <;> rfl), by repeat (first | (with_reducible first | exact HB.out | apply below_alloc | apply pw_below_drewN | apply below_drew1) | exact HB.out)⟩
  · rw [if_neg c3] at H
    have c3b0 : decide (648000 < t135) = false := decide_eq_false c3
    clear c3
    obtain ⟨ji6, hji6⟩ : ∃ j_ : Int, (mn t135 (wrap64 (648000 - t135))) = j_ := ⟨_, rfl⟩
    replace H : ((mapsheetsref11_fine.f k (ji6)).bind fun t137 => ((mapsheetsref11_rounded.f t137 1073741824).bind fun t138 => (some t138))) = some r := by first | (rw [hji6] at H; exact H) | (simp only [hji6] at H ⊢; exact H)
    (try rw [hji6] at A2)
    have hji6_ : (if (wrap64 (648000 - t135)) < t135 then (wrap64 (648000 - t135)) else t135) = ji6 := hji6
    replace H := Option.bind_eq_some_iff.mp H
    obtain ⟨t137, A70, H⟩ := H
    replace H : ((mapsheetsref11_rounded.f t137 1073741824).bind fun t138 => (some t138)) = some r := H
    have A7 := Aside0.mk A70
    clear A70
    replace H := Option.bind_eq_some_iff.mp H
    obtain ⟨t138, A80, H⟩ := H
    replace H : (some t138) = some r := H
    have A8 := Aside0.mk A80
    clear A80
    obtain rfl := Option.some.inj H
    go_enter Try.func15, Try.ntmps15
    go_wp2_with (first | ((with_reducible refine gate_callee (f := 31) rfl ?_); refine goesL_ (some 5) rfl rfl Try.func31 (by kernel_rfl) rfl #[.int .i64 a0] rfl (by (try simp only [List.map_toArray, List.map_cons, List.map_nil]); first | done | rfl | (simp only [List.length_drop, List.length_take]; rfl)) ?_; (with_reducible refine (mapsheetsref11_modulo.calls a0 t135 _ A2.out).mono ?_); rintro e w' ⟨rfl, ⟨nd, rfl⟩⟩; refine ⟨_, rfl, ?_⟩) | ((with_reducible refine gate_callee (f := 32) rfl ?_); refine goesL_ (some 16) rfl rfl Try.func32 (by kernel_rfl) rfl #[.int .i64 ji6] rfl (by (try simp only [List.map_toArray, List.map_cons, List.map_nil]); first | done | (simp only [hji6]; rfl) | rfl | (simp only [List.length_drop, List.length_take]; rfl)) ?_; (with_reducible refine (mapsheetsref11_fine.calls k ji6 t137 _ A7.out).mono ?_); rintro e w' ⟨rfl, ⟨nd, rfl⟩⟩; refine ⟨_, rfl, ?_⟩) | ((with_reducible refine gate_callee (f := 28) rfl ?_); refine goesL_ (some 17) rfl rfl Try.func28 (by kernel_rfl) rfl #[.int .i64 t137, .int .i64 1073741824] rfl (by (try simp only [List.map_toArray, List.map_cons, List.map_nil]); first | done | rfl | (simp only [List.length_drop, List.length_take]; rfl)) ?_; (with_reducible refine (mapsheetsref11_rounded.calls t137 1073741824 t138 _ A8.out).mono ?_); rintro e w' ⟨rfl, ⟨nd, rfl⟩⟩; refine ⟨_, rfl, ?_⟩))
    go_ret
    exact ⟨by first | rfl | (simp [errW_none, errW_some] <;> rfl) | (simp only [← hji6]; first | rfl | (simp [errW_none, errW_some] <;> rfl)) | (simp [*, errW_none, errW_some] <;> rfl), by repeat (first | (with_reducible first | exact HB.out | apply below_alloc | apply pw_below_drewN | apply below_drew1) | exact HB.out)⟩

/-! ### series_Cos: function 16 -/
def series_Cos.f (k : Nat) (a0 : Int) : Option (Int) := (series_circle.f a0).bind fun t139 => ((series_Sin.f k (wrap64 (324000 - t139))).bind fun t140 => (some t140))
theorem series_Cos.mono : ∀ a0 k, LeO (series_Cos.f k a0) (series_Cos.f (k + 1) a0) := by
  intro a0 k
  unfold series_Cos.f
  repeat' first
      | (with_reducible exact series_Sin.mono _ _)
      | (with_reducible exact LeO.refl _)
      | (with_reducible exact LeO.none _)
      | (with_reducible refine LeO.ite ?_ ?_)
      | (with_reducible refine LeO.bind ?_ (fun _ => ?_))
      | exact series_Sin.mono _ _
      | exact LeO.none _
      | refine LeO.ite ?_ ?_
      | refine LeO.bind ?_ (fun _ => ?_)
set_option maxHeartbeats 8000000 in
set_option maxRecDepth 100000 in
theorem series_Cos.calls (k : Nat) (a0 : Int) (r : Int) (w : World) (h : series_Cos.f k a0 = some r) :
    Calls Try.prog 16 #[.int .i64 a0] w fun e w' => e = .returned (.int .i64 r) ∧ Below w.heap.size w w' := by
  have HB := Aside0.mk (Below.refl w.heap.size w)
  have H : ((series_circle.f a0).bind fun t139 => ((series_Sin.f k (wrap64 (324000 - t139))).bind fun t140 => (some t140))) = some r := h
  clear h
  replace H := Option.bind_eq_some_iff.mp H
  obtain ⟨t139, A20, H⟩ := H
  replace H : ((series_Sin.f k (wrap64 (324000 - t139))).bind fun t140 => (some t140)) = some r := H
  have A2 := Aside0.mk A20
  clear A20
  replace H := Option.bind_eq_some_iff.mp H
  obtain ⟨t140, A30, H⟩ := H
  replace H : (some t140) = some r := H
  have A3 := Aside0.mk A30
  clear A30
  obtain rfl := Option.some.inj H
  go_enter Try.func16, Try.ntmps16
  go_wp2_with (first | ((with_reducible refine gate_callee (f := 29) rfl ?_); refine goesL_ (some 4) rfl rfl Try.func29 (by kernel_rfl) rfl #[.int .i64 a0] rfl (by (try simp only [List.map_toArray, List.map_cons, List.map_nil]); first | done | rfl | (simp only [List.length_drop, List.length_take]; rfl)) ?_; (with_reducible refine (series_circle.calls a0 t139 _ A2.out).mono ?_); rintro e w' ⟨rfl, ⟨nd, rfl⟩⟩; refine ⟨_, rfl, ?_⟩) | ((with_reducible refine gate_callee (f := 14) rfl ?_); refine goesL_ (some 6) rfl rfl Try.func14 (by kernel_rfl) rfl #[.int .i64 (wrap64 (324000 - t139))] rfl (by (try simp only [List.map_toArray, List.map_cons, List.map_nil]); first | done | rfl | (simp only [List.length_drop, List.length_take]; rfl)) ?_; (with_reducible refine (series_Sin.calls k (wrap64 (324000 - t139)) t140 _ A3.out).mono ?_); rintro e w4 ⟨rfl, hb⟩; refine ⟨_, rfl, ?_⟩; have n0_ := Aside0.mk (below_step (by repeat (first | (with_reducible first | exact HB.out | apply below_alloc | apply pw_below_drewN | apply below_drew1) | exact HB.out)) hb); clear HB; have HB := n0_; clear n0_; (try clear hb); (try clear hb2); (try clear hk); (try clear hi)))
  go_ret
  exact ⟨by first | rfl | (simp [errW_none, errW_some] <;> rfl) | (simp [*, errW_none, errW_some] <;> rfl), by repeat (first | (with_reducible first | exact HB.out | apply below_alloc | apply pw_below_drewN | apply below_drew1) | exact HB.out)⟩

/-! ### mapsheetsref11_Cos: function 17 -/
def mapsheetsref11_Cos.f (k : Nat) (a0 : Int) : Option (Int) := (mapsheetsref11_modulo.f a0).bind fun t141 => ((mapsheetsref11_Sin.f k (wrap64 (324000 - t141))).bind fun t142 => (some t142))
theorem mapsheetsref11_Cos.mono : ∀ a0 k, LeO (mapsheetsref11_Cos.f k a0) (mapsheetsref11_Cos.f (k + 1) a0) := by
  intro a0 k
  unfold mapsheetsref11_Cos.f
  repeat' first
      | (with_reducible exact mapsheetsref11_Sin.mono _ _)
      | (with_reducible exact LeO.refl _)
      | (with_reducible exact LeO.none _)
      | (with_reducible refine LeO.ite ?_ ?_)
      | (with_reducible refine LeO.bind ?_ (fun _ => ?_))
      | exact mapsheetsref11_Sin.mono _ _
      | exact LeO.none _
      | refine LeO.ite ?_ ?_
      | refine LeO.bind ?_ (fun _ => ?_)
set_option maxHeartbeats 8000000 in
set_option maxRecDepth 100000 in
theorem mapsheetsref11_Cos.calls (k : Nat) (a0 : Int) (r : Int) (w : World) (h : mapsheetsref11_Cos.f k a0 = some r) :
    Calls Try.prog 17 #[.int .i64 a0] w fun e w' => e = .returned (.int .i64 r) ∧ Below w.heap.size w w' := by
  have HB := Aside0.mk (Below.refl w.heap.size w)
  have H : ((mapsheetsref11_modulo.f a0).bind fun t141 => ((mapsheetsref11_Sin.f k (wrap64 (324000 - t141))).bind fun t142 => (some t142))) = some r := h
  clear h
  replace H := Option.bind_eq_some_iff.mp H
  obtain ⟨t141, A20, H⟩ := H
  replace H : ((mapsheetsref11_Sin.f k (wrap64 (324000 - t141))).bind fun t142 => (some t142)) = some r := H
  have A2 := Aside0.mk A20
  clear A20
  replace H := Option.bind_eq_some_iff.mp H
  obtain ⟨t142, A30, H⟩ := H
  replace H : (some t142) = some r := H
  have A3 := Aside0.mk A30
  clear A30
  obtain rfl := Option.some.inj H
  go_enter Try.func17, Try.ntmps17
  go_wp2_with (first | ((with_reducible refine gate_callee (f := 31) rfl ?_); refine goesL_ (some 4) rfl rfl Try.func31 (by kernel_rfl) rfl #[.int .i64 a0] rfl (by (try simp only [List.map_toArray, List.map_cons, List.map_nil]); first | done | rfl | (simp only [List.length_drop, List.length_take]; rfl)) ?_; (with_reducible refine (mapsheetsref11_modulo.calls a0 t141 _ A2.out).mono ?_); rintro e w' ⟨rfl, ⟨nd, rfl⟩⟩; refine ⟨_, rfl, ?_⟩) | ((with_reducible refine gate_callee (f := 15) rfl ?_); refine goesL_ (some 6) rfl rfl Try.func15 (by kernel_rfl) rfl #[.int .i64 (wrap64 (324000 - t141))] rfl (by (try simp only [List.map_toArray, List.map_cons, List.map_nil]); first | done | rfl | (simp only [List.length_drop, List.length_take]; rfl)) ?_; (with_reducible refine (mapsheetsref11_Sin.calls k (wrap64 (324000 - t141)) t142 _ A3.out).mono ?_); rintro e w4 ⟨rfl, hb⟩; refine ⟨_, rfl, ?_⟩; have n0_ := Aside0.mk (below_step (by repeat (first | (with_reducible first | exact HB.out | apply below_alloc | apply pw_below_drewN | apply below_drew1) | exact HB.out)) hb); clear HB; have HB := n0_; clear n0_; (try clear hb); (try clear hb2); (try clear hk); (try clear hi)))
  go_ret
  exact ⟨by first | rfl | (simp [errW_none, errW_some] <;> rfl) | (simp [*, errW_none, errW_some] <;> rfl), by repeat (first | (with_reducible first | exact HB.out | apply below_alloc | apply pw_below_drewN | apply below_drew1) | exact HB.out)⟩

/-! ### series_least: function 33 -/
def series_least.l0 : Nat → Int → Int → Int → Option (Int)
  | 0, _, _, _ => none
  | k + 1, x0, x3, x4 => if x3 < x4 then ((series_Sin.f k (wrap64 (Int.tdiv (wrap64 (x3 + x4)) 2))).bind fun t143 => (if t143 < x0 then (series_least.l0 k x0 (wrap64 ((wrap64 (Int.tdiv (wrap64 (x3 + x4)) 2)) + 1)) x4) else (series_least.l0 k x0 x3 (wrap64 (Int.tdiv (wrap64 (x3 + x4)) 2))))) else (some x3)
def series_least.f (k : Nat) (a0 : Int) : Option (Int) := series_least.l0 k a0 0 324000
theorem series_least.mono_l : ∀ k, (∀ y0 y1 y2, LeO (series_least.l0 k y0 y1 y2) (series_least.l0 (k + 1) y0 y1 y2))
  | 0 => fun _ _ _ r h => by simp [series_least.l0] at h
  | k + 1 => by
    have ih0 := series_least.mono_l k
    · intro y0 y1 y2
      unfold series_least.l0
      repeat' first
      | (with_reducible exact ih0 _ _ _)
      | (with_reducible exact series_Sin.mono _ _)
      | (with_reducible exact LeO.refl _)
      | (with_reducible exact LeO.none _)
      | (with_reducible refine LeO.ite ?_ ?_)
      | (with_reducible refine LeO.bind ?_ (fun _ => ?_))
      | exact ih0 _ _ _
      | exact series_Sin.mono _ _
      | exact LeO.none _
      | refine LeO.ite ?_ ?_
      | refine LeO.bind ?_ (fun _ => ?_)
theorem series_least.mono : ∀ a0 k, LeO (series_least.f k a0) (series_least.f (k + 1) a0) := by
  intro a0 k
  have ih0 := series_least.mono_l k
  unfold series_least.f
  repeat' first
      | (with_reducible exact ih0 _ _ _)
      | (with_reducible exact series_Sin.mono _ _)
      | (with_reducible exact LeO.refl _)
      | (with_reducible exact LeO.none _)
      | (with_reducible refine LeO.ite ?_ ?_)
      | (with_reducible refine LeO.bind ?_ (fun _ => ?_))
      | exact ih0 _ _ _
      | exact series_Sin.mono _ _
      | exact LeO.none _
      | refine LeO.ite ?_ ?_
      | refine LeO.bind ?_ (fun _ => ?_)
set_option maxHeartbeats 8000000 in
set_option maxRecDepth 100000 in
theorem series_least.calls (k : Nat) (a0 : Int) (r : Int) (w : World) (h : series_least.f k a0 = some r) :
    Calls Try.prog 33 #[.int .i64 a0] w fun e w' => e = .returned (.int .i64 r) ∧ Below w.heap.size w w' := by
  have HB := Aside0.mk (Below.refl w.heap.size w)
  have H : (series_least.l0 k a0 0 324000) = some r := h
  clear h
  have H' := Aside0.mk H
  clear H
  go_enter Try.func33, Try.ntmps33
  go_wp2
  go_loopg [3, 4] k (fun kq v3 v4 w' => ∃ (x3_1 : Int) (x4_1 : Int), v3 = .int .i64 x3_1 ∧ v4 = .int .i64 x4_1 ∧ Aside0 (series_least.l0 kq a0 x3_1 x4_1 = some r) ∧ Aside0 (kq ≤ k) ∧ Aside0 (Below w.heap.size w w'))
  case atStart => exact ⟨(0), (324000), (by first | rfl | (simp; done) | (simp [*]; done)), (by first | rfl | (simp; done) | (simp [*]; done)), H', ⟨Nat.le_refl _⟩, ⟨by repeat (first | (with_reducible first | exact HB.out | apply below_alloc | apply pw_below_drewN | apply below_drew1) | exact HB.out)⟩⟩
  case round =>
    clear H'
    obtain ⟨x3_1, x4_1, rfl, rfl, HA, HK1, HB⟩ := hrel
    cases gk with
    | zero => exact absurd HA.out (by simp [series_least.l0])
    | succ k1 =>
      have H := HA.out
      clear HA
      simp only [series_least.l0] at H
      by_cases c2 : x3_1 < x4_1
      · rw [if_pos c2] at H
        have c2b0 : decide (x3_1 < x4_1) = true := decide_eq_true c2
        clear c2
        replace H := Option.bind_eq_some_iff.mp H
        obtain ⟨t143, A30, H⟩ := H
        replace H : (if t143 < a0 then (series_least.l0 k1 a0 (wrap64 ((wrap64 (Int.tdiv (wrap64 (x3_1 + x4_1)) 2)) + 1)) x4_1) else (series_least.l0 k1 a0 x3_1 (wrap64 (Int.tdiv (wrap64 (x3_1 + x4_1)) 2)))) = some r := H
        have A3 := Aside0.mk A30
        clear A30
        by_cases c4 : t143 < a0
        · rw [if_pos c4] at H
          have c4b0 : decide (t143 < a0) = true := decide_eq_true c4
          clear c4
          have H' := Aside0.mk H
          clear H
          go_wp2_with (first | ((with_reducible refine gate_callee (f := 14) rfl ?_); refine goesL_ (some 14) rfl rfl Try.func14 (by kernel_rfl) rfl #[.int .i64 (wrap64 (Int.tdiv (wrap64 (x3_1 + x4_1)) 2))] rfl (by (try simp only [List.map_toArray, List.map_cons, List.map_nil]); first | done | rfl | (simp only [List.length_drop, List.length_take]; rfl)) ?_; (with_reducible refine (series_Sin.calls k1 (wrap64 (Int.tdiv (wrap64 (x3_1 + x4_1)) 2)) t143 _ A3.out).mono ?_); rintro e w5 ⟨rfl, hb⟩; refine ⟨_, rfl, ?_⟩; have n0_ := Aside0.mk (below_step (by repeat (first | (with_reducible first | exact HB.out | apply below_alloc | apply pw_below_drewN | apply below_drew1) | exact HB.out)) hb); clear HB; have HB := n0_; clear n0_; (try clear hb); (try clear hb2); (try clear hk); (try clear hi)))
          go_roundg k1
          case measure => have := HK1.out; omega
          case rel => exact ⟨(wrap64 ((wrap64 (Int.tdiv (wrap64 (x3_1 + x4_1)) 2)) + 1)), (x4_1), (by first | rfl | (simp; done) | (simp [*]; done)), (by first | rfl | (simp; done) | (simp [*]; done)), H', ⟨by have := HK1.out; omega⟩, ⟨by repeat (first | (with_reducible first | exact HB.out | apply below_alloc | apply pw_below_drewN | apply below_drew1) | exact HB.out)⟩⟩
        · rw [if_neg c4] at H
          have c4b0 : decide (t143 < a0) = false := decide_eq_false c4
          clear c4
          have H' := Aside0.mk H
          clear H
          go_wp2_with (first | ((with_reducible refine gate_callee (f := 14) rfl ?_); refine goesL_ (some 14) rfl rfl Try.func14 (by kernel_rfl) rfl #[.int .i64 (wrap64 (Int.tdiv (wrap64 (x3_1 + x4_1)) 2))] rfl (by (try simp only [List.map_toArray, List.map_cons, List.map_nil]); first | done | rfl | (simp only [List.length_drop, List.length_take]; rfl)) ?_; (with_reducible refine (series_Sin.calls k1 (wrap64 (Int.tdiv (wrap64 (x3_1 + x4_1)) 2)) t143 _ A3.out).mono ?_); rintro e w6 ⟨rfl, hb⟩; refine ⟨_, rfl, ?_⟩; have n0_ := Aside0.mk (below_step (by repeat (first | (with_reducible first | exact HB.out | apply below_alloc | apply pw_below_drewN | apply below_drew1) | exact HB.out)) hb); clear HB; have HB := n0_; clear n0_; (try clear hb); (try clear hb2); (try clear hk); (try clear hi)))
          go_roundg k1
          case measure => have := HK1.out; omega
          case rel => exact ⟨(x3_1), (wrap64 (Int.tdiv (wrap64 (x3_1 + x4_1)) 2)), (by first | rfl | (simp; done) | (simp [*]; done)), (by first | rfl | (simp; done) | (simp [*]; done)), H', ⟨by have := HK1.out; omega⟩, ⟨by repeat (first | (with_reducible first | exact HB.out | apply below_alloc | apply pw_below_drewN | apply below_drew1) | exact HB.out)⟩⟩
      · rw [if_neg c2] at H
        have c2b0 : decide (x3_1 < x4_1) = false := decide_eq_false c2
        clear c2
        obtain rfl := Option.some.inj H
        go_wp2
        go_ret
        exact ⟨by first | rfl | (simp [errW_none, errW_some] <;> rfl) | (simp [*, errW_none, errW_some] <;> rfl), by repeat (first | (with_reducible first | exact HB.out | apply below_alloc | apply pw_below_drewN | apply below_drew1) | exact HB.out)⟩

/-! ### series_Asin: function 19 -/
mutual
def series_Asin.j0 : Nat → Int → Bool → Option (Int × Int)
  | 0, _, _ => none
  | k + 1, x0, x13 => if x13 = true then (some (0, 2)) else (if x0 < 0 then ((series_Asin.f k (wrap64 (-x0))).bind fun bt144 => (some (wrap64 (-bt144.1), bt144.2))) else ((series_least.f k x0).bind fun t146 => (if t146 = 0 then (some (0, 0)) else ((series_Sin.f k (wrap64 (t146 - 1))).bind fun t147 => ((series_Sin.f k t146).bind fun t148 => (if (wrap64 (x0 - t147)) ≤ (wrap64 (t148 - x0)) then ((series_least.f k t147).bind fun t149 => (some (t149, 0))) else (some (t146, 0))))))))
def series_Asin.f : Nat → Int → Option (Int × Int)
  | 0, _ => none
  | k + 1, a0 => if a0 < (-1073741824) then (series_Asin.j0 k a0 true) else (series_Asin.j0 k a0 (decide (a0 > 1073741824)))
end
theorem series_Asin.mono_l : ∀ k, (∀ y0, LeO (series_Asin.f k y0) (series_Asin.f (k + 1) y0)) ∧ (∀ y0 y1, LeO (series_Asin.j0 k y0 y1) (series_Asin.j0 (k + 1) y0 y1))
  | 0 => ⟨fun _ r h => by simp [series_Asin.f] at h, fun _ _ r h => by simp [series_Asin.j0] at h⟩
  | k + 1 => by
    obtain ⟨ih0, ih1⟩ := series_Asin.mono_l k
    refine ⟨?_, ?_⟩
    · intro y0
      unfold series_Asin.f
      repeat' first
      | (with_reducible exact ih0 _)
      | (with_reducible exact ih1 _ _)
      | (with_reducible exact series_Sin.mono _ _)
      | (with_reducible exact series_least.mono _ _)
      | (with_reducible exact LeO.refl _)
      | (with_reducible exact LeO.none _)
      | (with_reducible refine LeO.ite ?_ ?_)
      | (with_reducible refine LeO.bind ?_ (fun _ => ?_))
      | exact ih0 _
      | exact ih1 _ _
      | exact series_Sin.mono _ _
      | exact series_least.mono _ _
      | exact LeO.none _
      | refine LeO.ite ?_ ?_
      | refine LeO.bind ?_ (fun _ => ?_)
    · intro y0 y1
      unfold series_Asin.j0
      repeat' first
      | (with_reducible exact ih0 _)
      | (with_reducible exact ih1 _ _)
      | (with_reducible exact series_Sin.mono _ _)
      | (with_reducible exact series_least.mono _ _)
      | (with_reducible exact LeO.refl _)
      | (with_reducible exact LeO.none _)
      | (with_reducible refine LeO.ite ?_ ?_)
      | (with_reducible refine LeO.bind ?_ (fun _ => ?_))
      | exact ih0 _
      | exact ih1 _ _
      | exact series_Sin.mono _ _
      | exact series_least.mono _ _
      | exact LeO.none _
      | refine LeO.ite ?_ ?_
      | refine LeO.bind ?_ (fun _ => ?_)
theorem series_Asin.mono : ∀ a0 k, LeO (series_Asin.f k a0) (series_Asin.f (k + 1) a0) := by
  intro a0 k
  obtain ⟨ih0, ih1⟩ := series_Asin.mono_l k
  exact ih0 a0
set_option maxHeartbeats 8000000 in
set_option maxRecDepth 100000 in
theorem series_Asin.calls (k : Nat) : ∀ (a0 : Int) (r1 : Int) (r2 : Int) (w : World) (h : series_Asin.f k a0 = some (r1, r2)),
    Calls Try.prog 19 #[.int .i64 a0] w fun e w' => e = .returned (.tuple #[.int .i64 r1, .int .i64 r2]) ∧ Below w.heap.size w w' := by
  induction k using Nat.strongRecOn with
  | _ k ih =>
  intro a0 r1 r2 w h
  cases k with
  | zero => exact absurd h (by simp [series_Asin.f])
  | succ k =>
  simp only [series_Asin.f] at h
  have HB := Aside0.mk (Below.refl w.heap.size w)
  have H : (if a0 < (-1073741824) then (series_Asin.j0 k a0 true) else (series_Asin.j0 k a0 (decide (a0 > 1073741824)))) = some (r1, r2) := h
  clear h
  have HC2 := Aside0.mk H
  clear H
  go_enter Try.func19, Try.ntmps19
  go_upto_region 1 with (fail)
  go_cut [13] (fun v13 wc => ∃ (kq : Nat) (x13_1 : Bool), v13 = .bool x13_1 ∧ Aside0 (series_Asin.j0 kq a0 x13_1 = some (r1, r2)) ∧ Aside0 (kq ≤ k) ∧ Aside0 (Below w.heap.size w wc))
  case first =>
    have H := HC2.out
    clear HC2
    by_cases c3 : a0 < (-1073741824)
    · rw [if_pos c3] at H
      have c3b0 : decide (a0 < (-1073741824)) = true := decide_eq_true c3
      clear c3
      (first | rw [c3b0] | (simp only [i64_w, i32_w]; rw [c3b0]) | skip)
      have H' := Aside0.mk H
      clear H
      go_wp2
      go_meet
      case rel => exact ⟨_, (true), (by first | rfl | (simp; done) | (simp [*]; done)), H', ⟨by first | omega | exact Nat.le_refl _⟩, ⟨by repeat (first | (with_reducible first | exact HB.out | apply below_alloc | apply pw_below_drewN | apply below_drew1) | exact HB.out)⟩⟩
    · rw [if_neg c3] at H
      have c3b0 : decide (a0 < (-1073741824)) = false := decide_eq_false c3
      clear c3
      (first | rw [c3b0] | (simp only [i64_w, i32_w]; rw [c3b0]) | skip)
      have H' := Aside0.mk H
      clear H
      go_wp2
      go_meet
      case rel => exact ⟨_, (decide (a0 > 1073741824)), (by first | rfl | (simp; done) | (simp [*]; done)), H', ⟨by first | omega | exact Nat.le_refl _⟩, ⟨by repeat (first | (with_reducible first | exact HB.out | apply below_alloc | apply pw_below_drewN | apply below_drew1) | exact HB.out)⟩⟩
  case rest =>
    clear HC2
    try clear c1
    try clear p2
    try clear c3
    try clear c3b0
    obtain ⟨kq, x13_1, rfl, HA, HJ1, HB⟩ := hcut
    cases kq with
    | zero => exact absurd HA.out (by simp [series_Asin.j0])
    | succ kj1 =>
      have H := HA.out
      clear HA
      simp only [series_Asin.j0] at H
      by_cases c4 : x13_1 = true
      · subst c4
        have H1 : (some (0, 2)) = some (r1, r2) := by rw [if_pos rfl] at H; exact H
        clear H
        have H := H1
        clear H1
        simp only [Option.some.injEq, Prod.mk.injEq] at H
        obtain ⟨rfl, rfl⟩ := H
        go_wp2
        go_ret2
        exact ⟨by first | rfl | (simp [errW_none, errW_some] <;> rfl) | (simp [*, errW_none, errW_some] <;> rfl), by repeat (first | (with_reducible first | exact HB.out | apply below_alloc | apply pw_below_drewN | apply below_drew1) | exact HB.out)⟩
      · replace c4 := Bool.eq_false_iff.mpr c4
        subst c4
        have H1 : (if a0 < 0 then ((series_Asin.f kj1 (wrap64 (-a0))).bind fun bt144 => (some (wrap64 (-bt144.1), bt144.2))) else ((series_least.f kj1 a0).bind fun t146 => (if t146 = 0 then (some (0, 0)) else ((series_Sin.f kj1 (wrap64 (t146 - 1))).bind fun t147 => ((series_Sin.f kj1 t146).bind fun t148 => (if (wrap64 (a0 - t147)) ≤ (wrap64 (t148 - a0)) then ((series_least.f kj1 t147).bind fun t149 => (some (t149, 0))) else (some (t146, 0)))))))) = some (r1, r2) := by rw [if_neg (show ¬ (false = true) by decide)] at H; exact H
        clear H
        have H := H1
        clear H1
        by_cases c5 : a0 < 0
        · rw [if_pos c5] at H
          have c5b0 : decide (a0 < 0) = true := decide_eq_true c5
          clear c5
          replace H := Option.bind_eq_some_iff.mp H
          obtain ⟨⟨t144, t145⟩, A60, H⟩ := H
          replace H : (some (wrap64 (-t144), t145)) = some (r1, r2) := H
          have A6 := Aside0.mk A60
          clear A60
          simp only [Option.some.injEq, Prod.mk.injEq] at H
          obtain ⟨rfl, rfl⟩ := H
          go_wp2_with (first | ((with_reducible refine gate_callee (f := 19) rfl ?_); refine goesL_ (some 19) rfl rfl Try.func19 (by kernel_rfl) rfl #[.int .i64 (wrap64 (-a0))] rfl (by (try simp only [List.map_toArray, List.map_cons, List.map_nil]); first | done | rfl | (simp only [List.length_drop, List.length_take]; rfl)) ?_; (with_reducible refine (ih kj1 (by have := HJ1.out; omega) (wrap64 (-a0)) t144 t145 _ A6.out).mono ?_); rintro e w7 ⟨rfl, hb⟩; refine ⟨_, rfl, ?_⟩; have n0_ := Aside0.mk (below_step (by repeat (first | (with_reducible first | exact HB.out | apply below_alloc | apply pw_below_drewN | apply below_drew1) | exact HB.out)) hb); clear HB; have HB := n0_; clear n0_; (try clear hb); (try clear hb2); (try clear hk); (try clear hi)))
          go_ret2
          exact ⟨by first | rfl | (simp [errW_none, errW_some] <;> rfl) | (simp [*, errW_none, errW_some] <;> rfl), by repeat (first | (with_reducible first | exact HB.out | apply below_alloc | apply pw_below_drewN | apply below_drew1) | exact HB.out)⟩
        · rw [if_neg c5] at H
          have c5b0 : decide (a0 < 0) = false := decide_eq_false c5
          clear c5
          replace H := Option.bind_eq_some_iff.mp H
          obtain ⟨t146, A80, H⟩ := H
          replace H : (if t146 = 0 then (some (0, 0)) else ((series_Sin.f kj1 (wrap64 (t146 - 1))).bind fun t147 => ((series_Sin.f kj1 t146).bind fun t148 => (if (wrap64 (a0 - t147)) ≤ (wrap64 (t148 - a0)) then ((series_least.f kj1 t147).bind fun t149 => (some (t149, 0))) else (some (t146, 0)))))) = some (r1, r2) := H
          have A8 := Aside0.mk A80
          clear A80
          by_cases c9 : t146 = 0
          · rw [if_pos c9] at H
            have c9b0 : (t146 == 0) = true := beq_iff_eq.mpr c9
            have c9b1 : (t146 != 0) = false := bne_eq_false_iff_eq.mpr c9
            clear c9
            simp only [Option.some.injEq, Prod.mk.injEq] at H
            obtain ⟨rfl, rfl⟩ := H
            go_wp2_with (first | ((with_reducible refine gate_callee (f := 33) rfl ?_); refine goesL_ (some 26) rfl rfl Try.func33 (by kernel_rfl) rfl #[.int .i64 a0] rfl (by (try simp only [List.map_toArray, List.map_cons, List.map_nil]); first | done | rfl | (simp only [List.length_drop, List.length_take]; rfl)) ?_; (with_reducible refine (series_least.calls kj1 a0 t146 _ A8.out).mono ?_); rintro e w10 ⟨rfl, hb⟩; refine ⟨_, rfl, ?_⟩; have n0_ := Aside0.mk (below_step (by repeat (first | (with_reducible first | exact HB.out | apply below_alloc | apply pw_below_drewN | apply below_drew1) | exact HB.out)) hb); clear HB; have HB := n0_; clear n0_; (try clear hb); (try clear hb2); (try clear hk); (try clear hi)))
            go_ret2
            exact ⟨by first | rfl | (simp [errW_none, errW_some] <;> rfl) | (simp [*, errW_none, errW_some] <;> rfl), by repeat (first | (with_reducible first | exact HB.out | apply below_alloc | apply pw_below_drewN | apply below_drew1) | exact HB.out)⟩
          · rw [if_neg c9] at H
            have c9b0 : (t146 == 0) = false := beq_eq_false_iff_ne.mpr c9
            have c9b1 : (t146 != 0) = true := bne_iff_ne.mpr c9
            replace H := Option.bind_eq_some_iff.mp H
            obtain ⟨t147, A110, H⟩ := H
            replace H : ((series_Sin.f kj1 t146).bind fun t148 => (if (wrap64 (a0 - t147)) ≤ (wrap64 (t148 - a0)) then ((series_least.f kj1 t147).bind fun t149 => (some (t149, 0))) else (some (t146, 0)))) = some (r1, r2) := H
            have A11 := Aside0.mk A110
            clear A110
            replace H := Option.bind_eq_some_iff.mp H
            obtain ⟨t148, A120, H⟩ := H
            replace H : (if (wrap64 (a0 - t147)) ≤ (wrap64 (t148 - a0)) then ((series_least.f kj1 t147).bind fun t149 => (some (t149, 0))) else (some (t146, 0))) = some (r1, r2) := H
            have A12 := Aside0.mk A120
            clear A120
            by_cases c13 : (wrap64 (a0 - t147)) ≤ (wrap64 (t148 - a0))
            · rw [if_pos c13] at H
              have c13b0 : decide ((wrap64 (a0 - t147)) ≤ (wrap64 (t148 - a0))) = true := decide_eq_true c13
              clear c13
              replace H := Option.bind_eq_some_iff.mp H
              obtain ⟨t149, A140, H⟩ := H
              replace H : (some (t149, 0)) = some (r1, r2) := H
              have A14 := Aside0.mk A140
              clear A140
              simp only [Option.some.injEq, Prod.mk.injEq] at H
              obtain ⟨rfl, rfl⟩ := H
              go_wp2_with (first | ((with_reducible refine gate_callee (f := 33) rfl ?_); refine goesL_ (some 26) rfl rfl Try.func33 (by kernel_rfl) rfl #[.int .i64 a0] rfl (by (try simp only [List.map_toArray, List.map_cons, List.map_nil]); first | done | rfl | (simp only [List.length_drop, List.length_take]; rfl)) ?_; (with_reducible refine (series_least.calls kj1 a0 t146 _ A8.out).mono ?_); rintro e w15 ⟨rfl, hb⟩; refine ⟨_, rfl, ?_⟩; have n0_ := Aside0.mk (below_step (by repeat (first | (with_reducible first | exact HB.out | apply below_alloc | apply pw_below_drewN | apply below_drew1) | exact HB.out)) hb); clear HB; have HB := n0_; clear n0_; (try clear hb); (try clear hb2); (try clear hk); (try clear hi)) | ((with_reducible refine gate_callee (f := 14) rfl ?_); refine goesL_ (some 31) rfl rfl Try.func14 (by kernel_rfl) rfl #[.int .i64 (wrap64 (t146 - 1))] rfl (by (try simp only [List.map_toArray, List.map_cons, List.map_nil]); first | done | rfl | (simp only [List.length_drop, List.length_take]; rfl)) ?_; (with_reducible refine (series_Sin.calls kj1 (wrap64 (t146 - 1)) t147 _ A11.out).mono ?_); rintro e w16 ⟨rfl, hb⟩; refine ⟨_, rfl, ?_⟩; have n0_ := Aside0.mk (below_step (by repeat (first | (with_reducible first | exact HB.out | apply below_alloc | apply pw_below_drewN | apply below_drew1) | exact HB.out)) hb); clear HB; have HB := n0_; clear n0_; (try clear hb); (try clear hb2); (try clear hk); (try clear hi)) | ((with_reducible refine gate_callee (f := 14) rfl ?_); refine goesL_ (some 36) rfl rfl Try.func14 (by kernel_rfl) rfl #[.int .i64 t146] rfl (by (try simp only [List.map_toArray, List.map_cons, List.map_nil]); first | done | rfl | (simp only [List.length_drop, List.length_take]; rfl)) ?_; (with_reducible refine (series_Sin.calls kj1 t146 t148 _ A12.out).mono ?_); rintro e w17 ⟨rfl, hb⟩; refine ⟨_, rfl, ?_⟩; have n0_ := Aside0.mk (below_step (by repeat (first | (with_reducible first | exact HB.out | apply below_alloc | apply pw_below_drewN | apply below_drew1) | exact HB.out)) hb); clear HB; have HB := n0_; clear n0_; (try clear hb); (try clear hb2); (try clear hk); (try clear hi)) | ((with_reducible refine gate_callee (f := 33) rfl ?_); refine goesL_ (some 41) rfl rfl Try.func33 (by kernel_rfl) rfl #[.int .i64 t147] rfl (by (try simp only [List.map_toArray, List.map_cons, List.map_nil]); first | done | rfl | (simp only [List.length_drop, List.length_take]; rfl)) ?_; (with_reducible refine (series_least.calls kj1 t147 t149 _ A14.out).mono ?_); rintro e w18 ⟨rfl, hb⟩; refine ⟨_, rfl, ?_⟩; have n0_ := Aside0.mk (below_step (by repeat (first | (with_reducible first | exact HB.out | apply below_alloc | apply pw_below_drewN | apply below_drew1) | exact HB.out)) hb); clear HB; have HB := n0_; clear n0_; (try clear hb); (try clear hb2); (try clear hk); (try clear hi)))
              go_ret2
              exact ⟨by first | rfl | (simp [errW_none, errW_some] <;> rfl) | (simp [*, errW_none, errW_some] <;> rfl), by repeat (first | (with_reducible first | exact HB.out | apply below_alloc | apply pw_below_drewN | apply below_drew1) | exact HB.out)⟩
            · rw [if_neg c13] at H
              have c13b0 : decide ((wrap64 (a0 - t147)) ≤ (wrap64 (t148 - a0))) = false := decide_eq_false c13
              clear c13
              simp only [Option.some.injEq, Prod.mk.injEq] at H
              obtain ⟨rfl, rfl⟩ := H
              go_wp2_with (first | ((with_reducible refine gate_callee (f := 33) rfl ?_); refine goesL_ (some 26) rfl rfl Try.func33 (by kernel_rfl) rfl #[.int .i64 a0] rfl (by (try simp only [List.map_toArray, List.map_cons, List.map_nil]); first | done | rfl | (simp only [List.length_drop, List.length_take]; rfl)) ?_; (with_reducible refine (series_least.calls kj1 a0 t146 _ A8.out).mono ?_); rintro e w19 ⟨rfl, hb⟩; refine ⟨_, rfl, ?_⟩; have n0_ := Aside0.mk (below_step (by repeat (first | (with_reducible first | exact HB.out | apply below_alloc | apply pw_below_drewN | apply below_drew1) | exact HB.out)) hb); clear HB; have HB := n0_; clear n0_; (try clear hb); (try clear hb2); (try clear hk); (try clear hi)) | ((with_reducible refine gate_callee (f := 14) rfl ?_); refine goesL_ (some 31) rfl rfl Try.func14 (by kernel_rfl) rfl #[.int .i64 (wrap64 (t146 - 1))] rfl (by (try simp only [List.map_toArray, List.map_cons, List.map_nil]); first | done | rfl | (simp only [List.length_drop, List.length_take]; rfl)) ?_; (with_reducible refine (series_Sin.calls kj1 (wrap64 (t146 - 1)) t147 _ A11.out).mono ?_); rintro e w20 ⟨rfl, hb⟩; refine ⟨_, rfl, ?_⟩; have n0_ := Aside0.mk (below_step (by repeat (first | (with_reducible first | exact HB.out | apply below_alloc | apply pw_below_drewN | apply below_drew1) | exact HB.out)) hb); clear HB; have HB := n0_; clear n0_; (try clear hb); (try clear hb2); (try clear hk); (try clear hi)) | ((with_reducible refine gate_callee (f := 14) rfl ?_); refine goesL_ (some 36) rfl rfl Try.func14 (by kernel_rfl) rfl #[.int .i64 t146] rfl (by (try simp only [List.map_toArray, List.map_cons, List.map_nil]); first | done | rfl | (simp only [List.length_drop, List.length_take]; rfl)) ?_; (with_reducible refine (series_Sin.calls kj1 t146 t148 _ A12.out).mono ?_); rintro e w21 ⟨rfl, hb⟩; refine ⟨_, rfl, ?_⟩; have n0_ := Aside0.mk (below_step (by repeat (first | (with_reducible first | exact HB.out | apply below_alloc | apply pw_below_drewN | apply below_drew1) | exact HB.out)) hb); clear HB; have HB := n0_; clear n0_; (try clear hb); (try clear hb2); (try clear hk); (try clear hi)))
              go_ret2
              exact ⟨by first | rfl | (simp [errW_none, errW_some] <;> rfl) | (simp [*, errW_none, errW_some] <;> rfl), by repeat (first | (with_reducible first | exact HB.out | apply below_alloc | apply pw_below_drewN | apply below_drew1) | exact HB.out)⟩

end Go.Proofs.Ytaehaehgngafnaa.P
