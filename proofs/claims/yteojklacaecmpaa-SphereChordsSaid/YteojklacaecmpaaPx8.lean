-- Written by wip/tools/xprint.py (this session's program, over the kit's print.py) for this seat.
import Derived.Test.YteojklacaecmpaaPx0
import Derived.Test.YteojklacaecmpaaPx6
import Derived.Test.YteojklacaecmpaaPx7
namespace Go.Proofs.Yteojklacaecmpaa.P
open Go.RowKit Go.Proofs.YteojklacaecmpaaW.PrintWords Go.Proofs.YteojklacaecmpaaW.PrintLast Go.Proofs.YteojklacaecmpaaW.PrintMore
attribute [local go_sem] max2_int min2_int max_two min_two max_three min_three max_four min_four   -- for this text's walks alone
set_option linter.unusedVariables false
set_option linter.unusedSimpArgs false

/-! ### series_sine: function 51 -/
def series_sine.l0 : Nat → Int → Int → Int → Int → Option (Int)
 | 0, _, _, _, _ => none
 | k + 1, x3, x4, x5, x13 => if x13 < 13 then (if 0 ≤ x13 then ((series_muldiv.f k x4 x3 1152921504606846976).bind fun t188 => ((series_muldiv.f k t188 x3 1152921504606846976).bind fun t189 => (if (rd [6, 20, 42, 72, 110, 156, 210, 272, 342, 420, 506, 600, 702] x13) = 0 then (none) else (if (Int.tmod x13 2) = 0 then (series_sine.l0 k x3 (wrap64 (Int.tdiv t189 (rd [6, 20, 42, 72, 110, 156, 210, 272, 342, 420, 506, 600, 702] x13))) (wrap64 (x5 - (wrap64 (Int.tdiv t189 (rd [6, 20, 42, 72, 110, 156, 210, 272, 342, 420, 506, 600, 702] x13))))) (wrap64 (x13 + 1))) else (series_sine.l0 k x3 (wrap64 (Int.tdiv t189 (rd [6, 20, 42, 72, 110, 156, 210, 272, 342, 420, 506, 600, 702] x13))) (wrap64 (x5 + (wrap64 (Int.tdiv t189 (rd [6, 20, 42, 72, 110, 156, 210, 272, 342, 420, 506, 600, 702] x13))))) (wrap64 (x13 + 1))))))) else (none)) else (some x5)
def series_sine.f (k : Nat) (a0 : Int) : Option (Int) := (series_muldiv.f k a0 3622009729038561421 648000).bind fun t187 => ((series_divisors.f).bind fun _ => (series_sine.l0 k t187 t187 t187 0))
theorem series_sine.mono_l : ∀ k, (∀ y0 y1 y2 y3, LeO (series_sine.l0 k y0 y1 y2 y3) (series_sine.l0 (k + 1) y0 y1 y2 y3))
 | 0 => fun _ _ _ _ r h => by simp [series_sine.l0] at h
 | k + 1 => by
  have ih0 := series_sine.mono_l k
  ·intro y0 y1 y2 y3
   unfold series_sine.l0
   repeat' first
   | (with_reducible exact ih0 _ _ _ _)
   | (with_reducible exact series_muldiv.mono _ _ _ _)
   | (with_reducible exact LeO.refl _)
   | (with_reducible exact LeO.none _)
   | (with_reducible refine LeO.ite ?_ ?_)
   | (with_reducible refine LeO.bind ?_ (fun _ => ?_))
   | exact ih0 _ _ _ _
   | exact series_muldiv.mono _ _ _ _
   | exact LeO.none _
   | refine LeO.ite ?_ ?_
   | refine LeO.bind ?_ (fun _ => ?_)
theorem series_sine.mono : ∀ a0 k, LeO (series_sine.f k a0) (series_sine.f (k + 1) a0) := by
 intro a0 k
 have ih0 := series_sine.mono_l k
 unfold series_sine.f
 repeat' first
   | (with_reducible exact ih0 _ _ _ _)
   | (with_reducible exact series_muldiv.mono _ _ _ _)
   | (with_reducible exact LeO.refl _)
   | (with_reducible exact LeO.none _)
   | (with_reducible refine LeO.ite ?_ ?_)
   | (with_reducible refine LeO.bind ?_ (fun _ => ?_))
   | exact ih0 _ _ _ _
   | exact series_muldiv.mono _ _ _ _
   | exact LeO.none _
   | refine LeO.ite ?_ ?_
   | refine LeO.bind ?_ (fun _ => ?_)
set_option maxHeartbeats 8000000 in
set_option maxRecDepth 100000 in
theorem series_sine.calls (k : Nat) (a0 : Int) (r : Int) (w : World) (h : series_sine.f k a0 = some r) :
  Calls Try.prog 51 #[.int .i64 a0] w fun e w' => e = .returned (.int .i64 r) ∧ Below w.heap.size w w' := by
 have HB := Aside0.mk (Below.refl w.heap.size w)
 have H : ((series_muldiv.f k a0 3622009729038561421 648000).bind fun t187 => ((series_divisors.f).bind fun _ => (series_sine.l0 k t187 t187 t187 0))) = some r := h
 clear h
 replace H := Option.bind_eq_some_iff.mp H
 obtain ⟨t187, A20, H⟩ := H
 replace H : ((series_divisors.f).bind fun _ => (series_sine.l0 k t187 t187 t187 0)) = some r := H
 have A2 := Aside0.mk A20
 clear A20
 replace H := Option.bind_eq_some_iff.mp H
 obtain ⟨_, A30, H⟩ := H
 replace H : (series_sine.l0 k t187 t187 t187 0) = some r := H
 have A3 := Aside0.mk A30
 clear A30
 have H' := Aside0.mk H
 clear H
 go_enter Try.func51, Try.ntmps51
 go_wp2_with (first | ((with_reducible refine gate_callee (f := 62) rfl ?_); refine goesL_ (some 9) rfl rfl Try.func62 (by kernel_rfl) rfl #[.int .i64 a0, .int .i64 3622009729038561421, .int .i64 648000] rfl (by (try simp only [List.map_toArray, List.map_cons, List.map_nil]); first | done | rfl | (simp only [List.length_drop, List.length_take]; rfl)) ?_; (with_reducible refine (series_muldiv.calls k a0 3622009729038561421 648000 t187 _ A2.out).mono ?_); rintro e w' ⟨rfl, ⟨nd, rfl⟩⟩; refine ⟨_, rfl, ?_⟩) | ((with_reducible refine gate_callee (f := 63) rfl ?_); refine goesL_ (some 12) rfl rfl Try.func63 (by kernel_rfl) rfl #[] rfl (by (try simp only [List.map_toArray, List.map_cons, List.map_nil]); first | done | rfl | (simp only [List.length_drop, List.length_take]; rfl)) ?_; (with_reducible refine (series_divisors.calls   _ A3.out).mono ?_); rintro e w4 ⟨rfl, hb⟩; refine ⟨_, rfl, ?_⟩; have n0_ := Aside0.mk (below_step (by with_reducible repeat first | exact HB.out | apply ba | apply bn | apply bd) hb); clear HB; have HB := n0_; clear n0_; (try clear hb); (try clear hb2); (try clear hk); (try clear hi)))
 go_loopg [4, 5, 13] k (fun kq v4 v5 v13 w' => ∃ (x4_1 : Int) (x5_1 : Int) (x13_1 : Int), v4 = .int .i64 x4_1 ∧ v5 = .int .i64 x5_1 ∧ v13 = .int .i64 x13_1 ∧ Aside0 (series_sine.l0 kq t187 x4_1 x5_1 x13_1 = some r) ∧ Aside0 (kq ≤ k) ∧ Aside0 (Below w.heap.size w w'))
 case atStart => exact ⟨(t187), (t187), (0), (by first | rfl | (simp; done) | (simp [*]; done)), (by first | rfl | (simp; done) | (simp [*]; done)), (by first | rfl | (simp; done) | (simp [*]; done)), H', ⟨Nat.le_refl _⟩, ⟨by with_reducible repeat first | exact HB.out | apply ba | apply bn | apply bd⟩⟩
 case round =>
  clear H'
  try clear p2
  obtain ⟨x4_1, x5_1, x13_1, rfl, rfl, rfl, HA, HK1, HB⟩ := hrel
  cases gk with
  | zero => exact absurd HA.out (by simp [series_sine.l0])
  | succ k1 =>
   have H := HA.out
   clear HA
   simp only [series_sine.l0] at H
   by_cases c5 : x13_1 < 13
   ·rw [if_pos c5] at H
    have c5b0 : decide (x13_1 < 13) = true := decide_eq_true c5
    clear c5
    by_cases c6 : 0 ≤ x13_1
    ·rw [if_pos c6] at H
     have c6b0 : decide (0 ≤ x13_1) = true := decide_eq_true c6
     clear c6
     replace H := Option.bind_eq_some_iff.mp H
     obtain ⟨t188, A80, H⟩ := H
     replace H : ((series_muldiv.f k1 t188 t187 1152921504606846976).bind fun t189 => (if (rd [6, 20, 42, 72, 110, 156, 210, 272, 342, 420, 506, 600, 702] x13_1) = 0 then (none) else (if (Int.tmod x13_1 2) = 0 then (series_sine.l0 k1 t187 (wrap64 (Int.tdiv t189 (rd [6, 20, 42, 72, 110, 156, 210, 272, 342, 420, 506, 600, 702] x13_1))) (wrap64 (x5_1 - (wrap64 (Int.tdiv t189 (rd [6, 20, 42, 72, 110, 156, 210, 272, 342, 420, 506, 600, 702] x13_1))))) (wrap64 (x13_1 + 1))) else (series_sine.l0 k1 t187 (wrap64 (Int.tdiv t189 (rd [6, 20, 42, 72, 110, 156, 210, 272, 342, 420, 506, 600, 702] x13_1))) (wrap64 (x5_1 + (wrap64 (Int.tdiv t189 (rd [6, 20, 42, 72, 110, 156, 210, 272, 342, 420, 506, 600, 702] x13_1))))) (wrap64 (x13_1 + 1)))))) = some r := H
     have A8 := Aside0.mk A80
     clear A80
     replace H := Option.bind_eq_some_iff.mp H
     obtain ⟨t189, A90, H⟩ := H
     replace H : (if (rd [6, 20, 42, 72, 110, 156, 210, 272, 342, 420, 506, 600, 702] x13_1) = 0 then (none) else (if (Int.tmod x13_1 2) = 0 then (series_sine.l0 k1 t187 (wrap64 (Int.tdiv t189 (rd [6, 20, 42, 72, 110, 156, 210, 272, 342, 420, 506, 600, 702] x13_1))) (wrap64 (x5_1 - (wrap64 (Int.tdiv t189 (rd [6, 20, 42, 72, 110, 156, 210, 272, 342, 420, 506, 600, 702] x13_1))))) (wrap64 (x13_1 + 1))) else (series_sine.l0 k1 t187 (wrap64 (Int.tdiv t189 (rd [6, 20, 42, 72, 110, 156, 210, 272, 342, 420, 506, 600, 702] x13_1))) (wrap64 (x5_1 + (wrap64 (Int.tdiv t189 (rd [6, 20, 42, 72, 110, 156, 210, 272, 342, 420, 506, 600, 702] x13_1))))) (wrap64 (x13_1 + 1))))) = some r := H
     have A9 := Aside0.mk A90
     clear A90
     by_cases c10 : (rd [6, 20, 42, 72, 110, 156, 210, 272, 342, 420, 506, 600, 702] x13_1) = 0
     ·rw [if_pos c10] at H
      exact absurd H (by simp)
     ·rw [if_neg c10] at H
      have c10b0 : ((rd [6, 20, 42, 72, 110, 156, 210, 272, 342, 420, 506, 600, 702] x13_1) == 0) = false := beq_eq_false_iff_ne.mpr c10
      have c10b1 : ((rd [6, 20, 42, 72, 110, 156, 210, 272, 342, 420, 506, 600, 702] x13_1) != 0) = true := bne_iff_ne.mpr c10
      by_cases c11 : (Int.tmod x13_1 2) = 0
      ·rw [if_pos c11] at H
       have c11b0 : ((Int.tmod x13_1 2) == 0) = true := beq_iff_eq.mpr c11
       have c11b1 : ((Int.tmod x13_1 2) != 0) = false := bne_eq_false_iff_eq.mpr c11
       clear c11
       have H' := Aside0.mk H
       clear H
       have p7 : 0 ≤ (x13_1 : Int) := of_decide_eq_true (by first | (with_reducible assumption) | assumption)
       have q7 : x13_1 < (13 : Int) := of_decide_eq_true (by first | (with_reducible assumption) | assumption)
       have hx7 : ∀ W_ : World, (Instr.index 72 (.agg #[.int .i64 6, .int .i64 20, .int .i64 42, .int .i64 72, .int .i64 110, .int .i64 156, .int .i64 210, .int .i64 272, .int .i64 342, .int .i64 420, .int .i64 506, .int .i64 600, .int .i64 702]) (.int .i64 x13_1)).run Try.prog W_ = .ok (.int .i64 (rd [6, 20, 42, 72, 110, 156, 210, 272, 342, 420, 506, 600, 702] x13_1)) W_ := (by intro W_; generalize x13_1 = jj_ at p7 q7 ⊢; rcases (show jj_ = 0 ∨ jj_ = 1 ∨ jj_ = 2 ∨ jj_ = 3 ∨ jj_ = 4 ∨ jj_ = 5 ∨ jj_ = 6 ∨ jj_ = 7 ∨ jj_ = 8 ∨ jj_ = 9 ∨ jj_ = 10 ∨ jj_ = 11 ∨ jj_ = 12 by omega) with hj_ | hj_ | hj_ | hj_ | hj_ | hj_ | hj_ | hj_ | hj_ | hj_ | hj_ | hj_ | hj_ <;> subst hj_ <;> (show _ = _; kernel_rfl))
       replace p7 := eq_true p7
       replace q7 := eq_true q7
       go_wp2_with (first | ((with_reducible refine gate_callee (f := 62) rfl ?_); refine goesL_ (some 19) rfl rfl Try.func62 (by kernel_rfl) rfl #[.int .i64 x4_1, .int .i64 t187, .int .i64 1152921504606846976] rfl (by (try simp only [List.map_toArray, List.map_cons, List.map_nil]); first | done | rfl | (simp only [List.length_drop, List.length_take]; rfl)) ?_; (with_reducible refine (series_muldiv.calls k1 x4_1 t187 1152921504606846976 t188 _ A8.out).mono ?_); rintro e w' ⟨rfl, ⟨nd, rfl⟩⟩; refine ⟨_, rfl, ?_⟩) | ((with_reducible refine gate_callee (f := 62) rfl ?_); refine goesL_ (some 21) rfl rfl Try.func62 (by kernel_rfl) rfl #[.int .i64 t188, .int .i64 t187, .int .i64 1152921504606846976] rfl (by (try simp only [List.map_toArray, List.map_cons, List.map_nil]); first | done | rfl | (simp only [List.length_drop, List.length_take]; rfl)) ?_; (with_reducible refine (series_muldiv.calls k1 t188 t187 1152921504606846976 t189 _ A9.out).mono ?_); rintro e w' ⟨rfl, ⟨nd, rfl⟩⟩; refine ⟨_, rfl, ?_⟩))
       go_roundg k1
       case measure => have := HK1.out; omega
       case rel => exact ⟨(wrap64 (Int.tdiv t189 (rd [6, 20, 42, 72, 110, 156, 210, 272, 342, 420, 506, 600, 702] x13_1))), (wrap64 (x5_1 - (wrap64 (Int.tdiv t189 (rd [6, 20, 42, 72, 110, 156, 210, 272, 342, 420, 506, 600, 702] x13_1))))), (wrap64 (x13_1 + 1)), (by first | rfl | (simp; done) | (simp [*]; done)), (by first | rfl | (simp; done) | (simp [*]; done)), (by first | rfl | (simp; done) | (simp [*]; done)), H', ⟨by have := HK1.out; omega⟩, ⟨by with_reducible repeat first | exact HB.out | apply ba | apply bn | apply bd⟩⟩
      ·rw [if_neg c11] at H
       have c11b0 : ((Int.tmod x13_1 2) == 0) = false := beq_eq_false_iff_ne.mpr c11
       have c11b1 : ((Int.tmod x13_1 2) != 0) = true := bne_iff_ne.mpr c11
       have H' := Aside0.mk H
       clear H
       have p7 : 0 ≤ (x13_1 : Int) := of_decide_eq_true (by first | (with_reducible assumption) | assumption)
       have q7 : x13_1 < (13 : Int) := of_decide_eq_true (by first | (with_reducible assumption) | assumption)
       have hx7 : ∀ W_ : World, (Instr.index 72 (.agg #[.int .i64 6, .int .i64 20, .int .i64 42, .int .i64 72, .int .i64 110, .int .i64 156, .int .i64 210, .int .i64 272, .int .i64 342, .int .i64 420, .int .i64 506, .int .i64 600, .int .i64 702]) (.int .i64 x13_1)).run Try.prog W_ = .ok (.int .i64 (rd [6, 20, 42, 72, 110, 156, 210, 272, 342, 420, 506, 600, 702] x13_1)) W_ := (by intro W_; generalize x13_1 = jj_ at p7 q7 ⊢; rcases (show jj_ = 0 ∨ jj_ = 1 ∨ jj_ = 2 ∨ jj_ = 3 ∨ jj_ = 4 ∨ jj_ = 5 ∨ jj_ = 6 ∨ jj_ = 7 ∨ jj_ = 8 ∨ jj_ = 9 ∨ jj_ = 10 ∨ jj_ = 11 ∨ jj_ = 12 by omega) with hj_ | hj_ | hj_ | hj_ | hj_ | hj_ | hj_ | hj_ | hj_ | hj_ | hj_ | hj_ | hj_ <;> subst hj_ <;> (show _ = _; kernel_rfl))
       replace p7 := eq_true p7
       replace q7 := eq_true q7
       go_wp2_with (first | ((with_reducible refine gate_callee (f := 62) rfl ?_); refine goesL_ (some 19) rfl rfl Try.func62 (by kernel_rfl) rfl #[.int .i64 x4_1, .int .i64 t187, .int .i64 1152921504606846976] rfl (by (try simp only [List.map_toArray, List.map_cons, List.map_nil]); first | done | rfl | (simp only [List.length_drop, List.length_take]; rfl)) ?_; (with_reducible refine (series_muldiv.calls k1 x4_1 t187 1152921504606846976 t188 _ A8.out).mono ?_); rintro e w' ⟨rfl, ⟨nd, rfl⟩⟩; refine ⟨_, rfl, ?_⟩) | ((with_reducible refine gate_callee (f := 62) rfl ?_); refine goesL_ (some 21) rfl rfl Try.func62 (by kernel_rfl) rfl #[.int .i64 t188, .int .i64 t187, .int .i64 1152921504606846976] rfl (by (try simp only [List.map_toArray, List.map_cons, List.map_nil]); first | done | rfl | (simp only [List.length_drop, List.length_take]; rfl)) ?_; (with_reducible refine (series_muldiv.calls k1 t188 t187 1152921504606846976 t189 _ A9.out).mono ?_); rintro e w' ⟨rfl, ⟨nd, rfl⟩⟩; refine ⟨_, rfl, ?_⟩))
       go_roundg k1
       case measure => have := HK1.out; omega
       case rel => exact ⟨(wrap64 (Int.tdiv t189 (rd [6, 20, 42, 72, 110, 156, 210, 272, 342, 420, 506, 600, 702] x13_1))), (wrap64 (x5_1 + (wrap64 (Int.tdiv t189 (rd [6, 20, 42, 72, 110, 156, 210, 272, 342, 420, 506, 600, 702] x13_1))))), (wrap64 (x13_1 + 1)), (by first | rfl | (simp; done) | (simp [*]; done)), (by first | rfl | (simp; done) | (simp [*]; done)), (by first | rfl | (simp; done) | (simp [*]; done)), H', ⟨by have := HK1.out; omega⟩, ⟨by with_reducible repeat first | exact HB.out | apply ba | apply bn | apply bd⟩⟩
    ·rw [if_neg c6] at H
     exact absurd H (by simp)
   ·rw [if_neg c5] at H
    have c5b0 : decide (x13_1 < 13) = false := decide_eq_false c5
    clear c5
    obtain rfl := Option.some.inj H
    go_wp2
    go_ret
    exact ⟨by first | rfl | (simp [errW_none, errW_some] <;> rfl) | (simp [*, errW_none, errW_some] <;> rfl), by with_reducible repeat first | exact HB.out | apply ba | apply bn | apply bd⟩

/-! ### series_Sin: function 41 -/
def series_Sin.f : Nat → Int → Option (Int)
 | 0, _ => none
 | k + 1, a0 => (series_circle.f a0).bind fun t190 => (if t190 > 648000 then ((series_Sin.f k (wrap64 (1296000 - t190))).bind fun t191 => (some (wrap64 (-t191)))) else (if t190 > 324000 then ((series_sine.f k (wrap64 (648000 - t190))).bind fun t192 => (some ((wrap64 (t192 + 536870912)) / 1073741824))) else ((series_sine.f k t190).bind fun t193 => (some ((wrap64 (t193 + 536870912)) / 1073741824)))))
theorem series_Sin.mono_l : ∀ k, (∀ y0, LeO (series_Sin.f k y0) (series_Sin.f (k + 1) y0))
 | 0 => fun _ r h => by simp [series_Sin.f] at h
 | k + 1 => by
  have ih0 := series_Sin.mono_l k
  ·intro y0
   unfold series_Sin.f
   repeat' first
   | (with_reducible exact ih0 _)
   | (with_reducible exact series_sine.mono _ _)
   | (with_reducible exact LeO.refl _)
   | (with_reducible exact LeO.none _)
   | (with_reducible refine LeO.ite ?_ ?_)
   | (with_reducible refine LeO.bind ?_ (fun _ => ?_))
   | exact ih0 _
   | exact series_sine.mono _ _
   | exact LeO.none _
   | refine LeO.ite ?_ ?_
   | refine LeO.bind ?_ (fun _ => ?_)
theorem series_Sin.mono : ∀ a0 k, LeO (series_Sin.f k a0) (series_Sin.f (k + 1) a0) := by
 intro a0 k
 have ih0 := series_Sin.mono_l k
 exact ih0 a0
set_option maxHeartbeats 8000000 in
set_option maxRecDepth 100000 in
theorem series_Sin.calls (k : Nat) : ∀ (a0 : Int) (r : Int) (w : World) (h : series_Sin.f k a0 = some r),
  Calls Try.prog 41 #[.int .i64 a0] w fun e w' => e = .returned (.int .i64 r) ∧ Below w.heap.size w w' := by
 induction k using Nat.strongRecOn with
 | _ k ih =>
 intro a0 r w h
 cases k with
 | zero => exact absurd h (by simp [series_Sin.f])
 | succ k =>
 simp only [series_Sin.f] at h
 have HB := Aside0.mk (Below.refl w.heap.size w)
 have H : ((series_circle.f a0).bind fun t190 => (if t190 > 648000 then ((series_Sin.f k (wrap64 (1296000 - t190))).bind fun t191 => (some (wrap64 (-t191)))) else (if t190 > 324000 then ((series_sine.f k (wrap64 (648000 - t190))).bind fun t192 => (some ((wrap64 (t192 + 536870912)) / 1073741824))) else ((series_sine.f k t190).bind fun t193 => (some ((wrap64 (t193 + 536870912)) / 1073741824)))))) = some r := h
 clear h
 replace H := Option.bind_eq_some_iff.mp H
 obtain ⟨t190, A20, H⟩ := H
 replace H : (if t190 > 648000 then ((series_Sin.f k (wrap64 (1296000 - t190))).bind fun t191 => (some (wrap64 (-t191)))) else (if t190 > 324000 then ((series_sine.f k (wrap64 (648000 - t190))).bind fun t192 => (some ((wrap64 (t192 + 536870912)) / 1073741824))) else ((series_sine.f k t190).bind fun t193 => (some ((wrap64 (t193 + 536870912)) / 1073741824))))) = some r := H
 have A2 := Aside0.mk A20
 clear A20
 by_cases c3 : t190 > 648000
 ·rw [if_pos c3] at H
  have c3b0 : decide (648000 < t190) = true := decide_eq_true c3
  clear c3
  replace H := Option.bind_eq_some_iff.mp H
  obtain ⟨t191, A40, H⟩ := H
  replace H : (some (wrap64 (-t191))) = some r := H
  have A4 := Aside0.mk A40
  clear A40
  obtain rfl := Option.some.inj H
  go_enter Try.func41, Try.ntmps41
  go_wp2_with (first | ((with_reducible refine gate_callee (f := 48) rfl ?_); refine goesL_ (some 5) rfl rfl Try.func48 (by kernel_rfl) rfl #[.int .i64 a0] rfl (by (try simp only [List.map_toArray, List.map_cons, List.map_nil]); first | done | rfl | (simp only [List.length_drop, List.length_take]; rfl)) ?_; (with_reducible refine (series_circle.calls a0 t190 _ A2.out).mono ?_); rintro e w' ⟨rfl, ⟨nd, rfl⟩⟩; refine ⟨_, rfl, ?_⟩) | ((with_reducible refine gate_callee (f := 41) rfl ?_); refine goesL_ (some 10) rfl rfl Try.func41 (by kernel_rfl) rfl #[.int .i64 (wrap64 (1296000 - t190))] rfl (by (try simp only [List.map_toArray, List.map_cons, List.map_nil]); first | done | rfl | (simp only [List.length_drop, List.length_take]; rfl)) ?_; (with_reducible refine (ih k (by omega) (wrap64 (1296000 - t190)) t191 _ A4.out).mono ?_); rintro e w5 ⟨rfl, hb⟩; refine ⟨_, rfl, ?_⟩; have n0_ := Aside0.mk (below_step (by with_reducible repeat first | exact HB.out | apply ba | apply bn | apply bd) hb); clear HB; have HB := n0_; clear n0_; (try clear hb); (try clear hb2); (try clear hk); (try clear hi)))
  go_ret
  exact ⟨by first | rfl | (simp [errW_none, errW_some] <;> rfl) | (simp [*, errW_none, errW_some] <;> rfl), by with_reducible repeat first | exact HB.out | apply ba | apply bn | apply bd⟩
 ·rw [if_neg c3] at H
  have c3b0 : decide (648000 < t190) = false := decide_eq_false c3
  clear c3
  by_cases c6 : t190 > 324000
  ·rw [if_pos c6] at H
   have c6b0 : decide (324000 < t190) = true := decide_eq_true c6
   clear c6
   replace H := Option.bind_eq_some_iff.mp H
   obtain ⟨t192, A70, H⟩ := H
   replace H : (some ((wrap64 (t192 + 536870912)) / 1073741824)) = some r := H
   have A7 := Aside0.mk A70
   clear A70
   obtain rfl := Option.some.inj H
   go_enter Try.func41, Try.ntmps41
   go_wp2_with (first | ((with_reducible refine gate_callee (f := 48) rfl ?_); refine goesL_ (some 5) rfl rfl Try.func48 (by kernel_rfl) rfl #[.int .i64 a0] rfl (by (try simp only [List.map_toArray, List.map_cons, List.map_nil]); first | done | rfl | (simp only [List.length_drop, List.length_take]; rfl)) ?_; (with_reducible refine (series_circle.calls a0 t190 _ A2.out).mono ?_); rintro e w' ⟨rfl, ⟨nd, rfl⟩⟩; refine ⟨_, rfl, ?_⟩) | ((with_reducible refine gate_callee (f := 51) rfl ?_); refine goesL_ (some 17) rfl rfl Try.func51 (by kernel_rfl) rfl #[.int .i64 (wrap64 (648000 - t190))] rfl (by (try simp only [List.map_toArray, List.map_cons, List.map_nil]); first | done | rfl | (simp only [List.length_drop, List.length_take]; rfl)) ?_; (with_reducible refine (series_sine.calls k (wrap64 (648000 - t190)) t192 _ A7.out).mono ?_); rintro e w8 ⟨rfl, hb⟩; refine ⟨_, rfl, ?_⟩; have n0_ := Aside0.mk (below_step (by with_reducible repeat first | exact HB.out | apply ba | apply bn | apply bd) hb); clear HB; have HB := n0_; clear n0_; (try clear hb); (try clear hb2); (try clear hk); (try clear hi)))
   go_ret
   exact ⟨by first | rfl | (simp [errW_none, errW_some] <;> rfl) | (simp [*, errW_none, errW_some] <;> rfl), by with_reducible repeat first | exact HB.out | apply ba | apply bn | apply bd⟩
  ·rw [if_neg c6] at H
   have c6b0 : decide (324000 < t190) = false := decide_eq_false c6
   clear c6
   replace H := Option.bind_eq_some_iff.mp H
   obtain ⟨t193, A90, H⟩ := H
   replace H : (some ((wrap64 (t193 + 536870912)) / 1073741824)) = some r := H
   have A9 := Aside0.mk A90
   clear A90
   obtain rfl := Option.some.inj H
   go_enter Try.func41, Try.ntmps41
   go_wp2_with (first | ((with_reducible refine gate_callee (f := 48) rfl ?_); refine goesL_ (some 5) rfl rfl Try.func48 (by kernel_rfl) rfl #[.int .i64 a0] rfl (by (try simp only [List.map_toArray, List.map_cons, List.map_nil]); first | done | rfl | (simp only [List.length_drop, List.length_take]; rfl)) ?_; (with_reducible refine (series_circle.calls a0 t190 _ A2.out).mono ?_); rintro e w' ⟨rfl, ⟨nd, rfl⟩⟩; refine ⟨_, rfl, ?_⟩) | ((with_reducible refine gate_callee (f := 51) rfl ?_); refine goesL_ (some 17) rfl rfl Try.func51 (by kernel_rfl) rfl #[.int .i64 t190] rfl (by (try simp only [List.map_toArray, List.map_cons, List.map_nil]); first | done | rfl | (simp only [List.length_drop, List.length_take]; rfl)) ?_; (with_reducible refine (series_sine.calls k t190 t193 _ A9.out).mono ?_); rintro e w10 ⟨rfl, hb⟩; refine ⟨_, rfl, ?_⟩; have n0_ := Aside0.mk (below_step (by with_reducible repeat first | exact HB.out | apply ba | apply bn | apply bd) hb); clear HB; have HB := n0_; clear n0_; (try clear hb); (try clear hb2); (try clear hk); (try clear hi)))
   go_ret
   exact ⟨by first | rfl | (simp [errW_none, errW_some] <;> rfl) | (simp [*, errW_none, errW_some] <;> rfl), by with_reducible repeat first | exact HB.out | apply ba | apply bn | apply bd⟩

/-! ### series_Cos: function 39 -/
def series_Cos.f (k : Nat) (a0 : Int) : Option (Int) := (series_circle.f a0).bind fun t194 => ((series_Sin.f k (wrap64 (324000 - t194))).bind fun t195 => (some t195))
theorem series_Cos.mono : ∀ a0 k, LeO (series_Cos.f k a0) (series_Cos.f (k + 1) a0) := by
 intro a0 k
 unfold series_Cos.f
 repeat' first
   | (with_reducible exact series_Sin.mono _ _)
   | (with_reducible exact LeO.refl _)
   | (with_reducible exact LeO.none _)
   | (with_reducible refine LeO.ite ?_ ?_)
   | (with_reducible refine LeO.bind ?_ (fun _ => ?_))
   | exact series_Sin.mono _ _
   | exact LeO.none _
   | refine LeO.ite ?_ ?_
   | refine LeO.bind ?_ (fun _ => ?_)
set_option maxHeartbeats 8000000 in
set_option maxRecDepth 100000 in
theorem series_Cos.calls (k : Nat) (a0 : Int) (r : Int) (w : World) (h : series_Cos.f k a0 = some r) :
  Calls Try.prog 39 #[.int .i64 a0] w fun e w' => e = .returned (.int .i64 r) ∧ Below w.heap.size w w' := by
 have HB := Aside0.mk (Below.refl w.heap.size w)
 have H : ((series_circle.f a0).bind fun t194 => ((series_Sin.f k (wrap64 (324000 - t194))).bind fun t195 => (some t195))) = some r := h
 clear h
 replace H := Option.bind_eq_some_iff.mp H
 obtain ⟨t194, A20, H⟩ := H
 replace H : ((series_Sin.f k (wrap64 (324000 - t194))).bind fun t195 => (some t195)) = some r := H
 have A2 := Aside0.mk A20
 clear A20
 replace H := Option.bind_eq_some_iff.mp H
 obtain ⟨t195, A30, H⟩ := H
 replace H : (some t195) = some r := H
 have A3 := Aside0.mk A30
 clear A30
 obtain rfl := Option.some.inj H
 go_enter Try.func39, Try.ntmps39
 go_wp2_with (first | ((with_reducible refine gate_callee (f := 48) rfl ?_); refine goesL_ (some 4) rfl rfl Try.func48 (by kernel_rfl) rfl #[.int .i64 a0] rfl (by (try simp only [List.map_toArray, List.map_cons, List.map_nil]); first | done | rfl | (simp only [List.length_drop, List.length_take]; rfl)) ?_; (with_reducible refine (series_circle.calls a0 t194 _ A2.out).mono ?_); rintro e w' ⟨rfl, ⟨nd, rfl⟩⟩; refine ⟨_, rfl, ?_⟩) | ((with_reducible refine gate_callee (f := 41) rfl ?_); refine goesL_ (some 6) rfl rfl Try.func41 (by kernel_rfl) rfl #[.int .i64 (wrap64 (324000 - t194))] rfl (by (try simp only [List.map_toArray, List.map_cons, List.map_nil]); first | done | rfl | (simp only [List.length_drop, List.length_take]; rfl)) ?_; (with_reducible refine (series_Sin.calls k (wrap64 (324000 - t194)) t195 _ A3.out).mono ?_); rintro e w4 ⟨rfl, hb⟩; refine ⟨_, rfl, ?_⟩; have n0_ := Aside0.mk (below_step (by with_reducible repeat first | exact HB.out | apply ba | apply bn | apply bd) hb); clear HB; have HB := n0_; clear n0_; (try clear hb); (try clear hb2); (try clear hk); (try clear hi)))
 go_ret
 exact ⟨by first | rfl | (simp [errW_none, errW_some] <;> rfl) | (simp [*, errW_none, errW_some] <;> rfl), by with_reducible repeat first | exact HB.out | apply ba | apply bn | apply bd⟩

/-! ### num_divide: function 49 -/
def num_divide.j0 : Nat → Int → Int → Bool → Option (Int × Int × Int)
 | 0, _, _, _ => none
 | k + 1, x0, x1, x14 => if x14 = true then (some (0, 0, 15)) else (if x1 = 0 then (none) else (if (Int.tmod x0 x1) = 0 then (some (wrap64 (Int.tdiv x0 x1), Int.tmod x0 x1, 0)) else (if ((decide ((Int.tmod x0 x1) < 0)) != (decide (x1 < 0))) = true then (some (wrap64 ((wrap64 (Int.tdiv x0 x1)) - 1), wrap64 ((Int.tmod x0 x1) + x1), 0)) else (some (wrap64 (Int.tdiv x0 x1), Int.tmod x0 x1, 0)))))
def num_divide.f (k : Nat) (a0 : Int) (a1 : Int) : Option (Int × Int × Int) := if a1 = 0 then (some (0, 0, 21)) else (if a0 = (-9223372036854775808) then (num_divide.j0 k a0 a1 (a1 == (-1))) else (num_divide.j0 k a0 a1 false))
theorem num_divide.mono_l : ∀ k, (∀ y0 y1 y2, LeO (num_divide.j0 k y0 y1 y2) (num_divide.j0 (k + 1) y0 y1 y2))
 | 0 => fun _ _ _ r h => by simp [num_divide.j0] at h
 | k + 1 => by
  have ih0 := num_divide.mono_l k
  ·intro y0 y1 y2
   unfold num_divide.j0
   repeat' first
   | (with_reducible exact ih0 _ _ _)
   | (with_reducible exact LeO.refl _)
   | (with_reducible exact LeO.none _)
   | (with_reducible refine LeO.ite ?_ ?_)
   | (with_reducible refine LeO.bind ?_ (fun _ => ?_))
   | exact ih0 _ _ _
   | exact LeO.none _
   | refine LeO.ite ?_ ?_
   | refine LeO.bind ?_ (fun _ => ?_)
theorem num_divide.mono : ∀ a0 a1 k, LeO (num_divide.f k a0 a1) (num_divide.f (k + 1) a0 a1) := by
 intro a0 a1 k
 have ih0 := num_divide.mono_l k
 unfold num_divide.f
 repeat' first
   | (with_reducible exact ih0 _ _ _)
   | (with_reducible exact LeO.refl _)
   | (with_reducible exact LeO.none _)
   | (with_reducible refine LeO.ite ?_ ?_)
   | (with_reducible refine LeO.bind ?_ (fun _ => ?_))
   | exact ih0 _ _ _
   | exact LeO.none _
   | refine LeO.ite ?_ ?_
   | refine LeO.bind ?_ (fun _ => ?_)
set_option maxHeartbeats 8000000 in
set_option maxRecDepth 100000 in
theorem num_divide.calls (k : Nat) (a0 : Int) (a1 : Int) (r1 : Int) (r2 : Int) (r3 : Int) (w : World) (h : num_divide.f k a0 a1 = some (r1, r2, r3)) :
  Calls Try.prog 49 #[.int .i64 a0, .int .i64 a1] w fun e w' => e = .returned (.tuple #[.int .i64 r1, .int .i64 r2, .int .i64 r3]) ∧ Drawn0 w w' := by
 have H : (if a1 = 0 then (some (0, 0, 21)) else (if a0 = (-9223372036854775808) then (num_divide.j0 k a0 a1 (a1 == (-1))) else (num_divide.j0 k a0 a1 false))) = some (r1, r2, r3) := h
 clear h
 by_cases c3 : a1 = 0
 ·rw [if_pos c3] at H
  have c3b0 : (a1 == 0) = true := beq_iff_eq.mpr c3
  have c3b1 : (a1 != 0) = false := bne_eq_false_iff_eq.mpr c3
  clear c3
  simp only [Option.some.injEq, Prod.mk.injEq] at H
  obtain ⟨rfl, rfl, rfl⟩ := H
  go_enter Try.func49, Try.ntmps49
  go_wp2
  repeat (go_quiet (fail); try go_wp2)
  go_ret3
  exact ⟨by first | rfl | (simp; done) | (simp [*]; done), by repeat (first | exact Drawn0.refl _ | apply Drawn0.step)⟩
 ·rw [if_neg c3] at H
  have c3b0 : (a1 == 0) = false := beq_eq_false_iff_ne.mpr c3
  have c3b1 : (a1 != 0) = true := bne_iff_ne.mpr c3
  have HC4 := Aside0.mk H
  clear H
  go_enter Try.func49, Try.ntmps49
  go_upto_region 3 with (fail)
  repeat (go_quiet (fail); go_upto_region 3 with (fail))
  go_cut [14] (fun v14 wc => ∃ (kq : Nat) (x14_3 : Bool), v14 = .bool x14_3 ∧ Aside0 (num_divide.j0 kq a0 a1 x14_3 = some (r1, r2, r3)) ∧ Aside0 (kq ≤ k) ∧ Drawn0 w wc)
  case first =>
   have H := HC4.out
   clear HC4
   by_cases c5 : a0 = (-9223372036854775808)
   ·rw [if_pos c5] at H
    have c5b0 : (a0 == (-9223372036854775808)) = true := beq_iff_eq.mpr c5
    have c5b1 : (a0 != (-9223372036854775808)) = false := bne_eq_false_iff_eq.mpr c5
    clear c5
    (first | rw [c5b0] | (simp only [i64_w, i32_w]; rw [c5b0]) | skip)
    have H' := Aside0.mk H
    clear H
    go_wp2
    repeat (go_quiet (fail); try go_wp2)
    go_meet
    case rel => exact ⟨_, ((a1 == (-1))), (by first | rfl | (simp; done) | (simp [*]; done)), H', ⟨by first | omega | exact Nat.le_refl _⟩, by repeat (first | exact Drawn0.refl _ | apply Drawn0.step)⟩
   ·rw [if_neg c5] at H
    have c5b0 : (a0 == (-9223372036854775808)) = false := beq_eq_false_iff_ne.mpr c5
    have c5b1 : (a0 != (-9223372036854775808)) = true := bne_iff_ne.mpr c5
    (first | rw [c5b0] | (simp only [i64_w, i32_w]; rw [c5b0]) | skip)
    have H' := Aside0.mk H
    clear H
    go_wp2
    repeat (go_quiet (fail); try go_wp2)
    go_meet
    case rel => exact ⟨_, (false), (by first | rfl | (simp; done) | (simp [*]; done)), H', ⟨by first | omega | exact Nat.le_refl _⟩, by repeat (first | exact Drawn0.refl _ | apply Drawn0.step)⟩
  case rest =>
   clear HC4
   try clear p2
   try clear c3
   try clear c3b0
   try clear c3b1
   try clear c4
   try clear c5
   try clear c5b0
   try clear c5b1
   obtain ⟨kq, x14_3, rfl, HA, HJ3, ⟨mc3, rfl⟩⟩ := hcut
   cases kq with
   | zero => exact absurd HA.out (by simp [num_divide.j0])
   | succ kj3 =>
    have H := HA.out
    clear HA
    simp only [num_divide.j0] at H
    by_cases c6 : x14_3 = true
    ·subst c6
     have H1 : (some (0, 0, 15)) = some (r1, r2, r3) := by rw [if_pos rfl] at H; exact H
     clear H
     have H := H1
     clear H1
     simp only [Option.some.injEq, Prod.mk.injEq] at H
     obtain ⟨rfl, rfl, rfl⟩ := H
     go_wp2
     repeat (go_quiet (fail); try go_wp2)
     go_ret3
     exact ⟨by first | rfl | (simp; done) | (simp [*]; done), by repeat (first | exact Drawn0.refl _ | apply Drawn0.step)⟩
    ·replace c6 := Bool.eq_false_iff.mpr c6
     subst c6
     have H1 : (if a1 = 0 then (none) else (if (Int.tmod a0 a1) = 0 then (some (wrap64 (Int.tdiv a0 a1), Int.tmod a0 a1, 0)) else (if ((decide ((Int.tmod a0 a1) < 0)) != (decide (a1 < 0))) = true then (some (wrap64 ((wrap64 (Int.tdiv a0 a1)) - 1), wrap64 ((Int.tmod a0 a1) + a1), 0)) else (some (wrap64 (Int.tdiv a0 a1), Int.tmod a0 a1, 0))))) = some (r1, r2, r3) := by rw [if_neg (show ¬ (false = true) by decide)] at H; exact H
     clear H
     have H := H1
     clear H1
     by_cases c7 : a1 = 0
     ·rw [if_pos c7] at H
      exact absurd H (by simp)
     ·rw [if_neg c7] at H
      have c7b0 : (a1 == 0) = false := beq_eq_false_iff_ne.mpr c7
      have c7b1 : (a1 != 0) = true := bne_iff_ne.mpr c7
      by_cases c8 : (Int.tmod a0 a1) = 0
      ·rw [if_pos c8] at H
       have c8b0 : ((Int.tmod a0 a1) == 0) = true := beq_iff_eq.mpr c8
       have c8b1 : ((Int.tmod a0 a1) != 0) = false := bne_eq_false_iff_eq.mpr c8
       clear c8
       simp only [Option.some.injEq, Prod.mk.injEq] at H
       obtain ⟨rfl, rfl, rfl⟩ := H
       go_wp2
       repeat (go_quiet (fail); try go_wp2)
       go_ret3
       exact ⟨by first | rfl | (simp; done) | (simp [*]; done), by repeat (first | exact Drawn0.refl _ | apply Drawn0.step)⟩
      ·rw [if_neg c8] at H
       have c8b0 : ((Int.tmod a0 a1) == 0) = false := beq_eq_false_iff_ne.mpr c8
       have c8b1 : ((Int.tmod a0 a1) != 0) = true := bne_iff_ne.mpr c8
       by_cases c9 : ((decide ((Int.tmod a0 a1) < 0)) != (decide (a1 < 0))) = true
       ·rw [if_pos c9] at H
        have c9b0 : ((decide ((Int.tmod a0 a1) < 0)) != (decide (a1 < 0))) = true := c9
        (try (have c9b1 : decide ((decide ((Int.tmod a0 a1) < 0)) = (decide (a1 < 0))) = false := by simpa using c9))
        (try (have c9b2 : ((decide ((Int.tmod a0 a1) < 0)) == (decide (a1 < 0))) = false := by simpa using c9))
        (try (have c9b3 : ¬ ((decide ((Int.tmod a0 a1) < 0)) = (decide (a1 < 0))) := by simpa using c9))
        clear c9
        simp only [Option.some.injEq, Prod.mk.injEq] at H
        obtain ⟨rfl, rfl, rfl⟩ := H
        go_wp2
        repeat (go_quiet (fail); try go_wp2)
        go_ret3
        exact ⟨by first | rfl | (simp; done) | (simp [*]; done), by repeat (first | exact Drawn0.refl _ | apply Drawn0.step)⟩
       ·rw [if_neg c9] at H
        have c9b0 : ((decide ((Int.tmod a0 a1) < 0)) != (decide (a1 < 0))) = false := by simpa using c9
        (try (have c9b1 : decide ((decide ((Int.tmod a0 a1) < 0)) = (decide (a1 < 0))) = true := by simpa using c9))
        (try (have c9b2 : ((decide ((Int.tmod a0 a1) < 0)) == (decide (a1 < 0))) = true := by simpa using c9))
        clear c9
        simp only [Option.some.injEq, Prod.mk.injEq] at H
        obtain ⟨rfl, rfl, rfl⟩ := H
        go_wp2
        repeat (go_quiet (fail); try go_wp2)
        go_ret3
        exact ⟨by first | rfl | (simp; done) | (simp [*]; done), by repeat (first | exact Drawn0.refl _ | apply Drawn0.step)⟩

/-! ### num_Round: function 40 -/
def num_Round.f (k : Nat) (a0 : Int) (a1 : Int) : Option (Int × Int) := (num_divide.f k a0 a1).bind fun bt196 => (if bt196.2.1 = 0 then (some (bt196.1, bt196.2.2)) else ((num_abs.f bt196.2.1).bind fun t199 => ((num_abs.f a1).bind fun t200 => ((num_abs.f bt196.2.1).bind fun t201 => (if t199 ≥ (IntKind.u64.wrap (t200 - t199)) then (some (wrap64 (bt196.1 + 1), bt196.2.2)) else (some (bt196.1, bt196.2.2)))))))
theorem num_Round.mono : ∀ a0 a1 k, LeO (num_Round.f k a0 a1) (num_Round.f (k + 1) a0 a1) := by
 intro a0 a1 k
 unfold num_Round.f
 repeat' first
   | (with_reducible exact num_divide.mono _ _ _)
   | (with_reducible exact LeO.refl _)
   | (with_reducible exact LeO.none _)
   | (with_reducible refine LeO.ite ?_ ?_)
   | (with_reducible refine LeO.bind ?_ (fun _ => ?_))
   | exact num_divide.mono _ _ _
   | exact LeO.none _
   | refine LeO.ite ?_ ?_
   | refine LeO.bind ?_ (fun _ => ?_)
set_option maxHeartbeats 8000000 in
set_option maxRecDepth 100000 in
theorem num_Round.calls (k : Nat) (a0 : Int) (a1 : Int) (r1 : Int) (r2 : Int) (w : World) (h : num_Round.f k a0 a1 = some (r1, r2)) :
  Calls Try.prog 40 #[.int .i64 a0, .int .i64 a1] w fun e w' => e = .returned (.tuple #[.int .i64 r1, .int .i64 r2]) ∧ Drawn0 w w' := by
 have H : ((num_divide.f k a0 a1).bind fun bt196 => (if bt196.2.1 = 0 then (some (bt196.1, bt196.2.2)) else ((num_abs.f bt196.2.1).bind fun t199 => ((num_abs.f a1).bind fun t200 => ((num_abs.f bt196.2.1).bind fun t201 => (if t199 ≥ (IntKind.u64.wrap (t200 - t199)) then (some (wrap64 (bt196.1 + 1), bt196.2.2)) else (some (bt196.1, bt196.2.2)))))))) = some (r1, r2) := h
 clear h
 replace H := Option.bind_eq_some_iff.mp H
 obtain ⟨⟨t196, t197, t198⟩, A30, H⟩ := H
 replace H : (if t197 = 0 then (some (t196, t198)) else ((num_abs.f t197).bind fun t199 => ((num_abs.f a1).bind fun t200 => ((num_abs.f t197).bind fun t201 => (if t199 ≥ (IntKind.u64.wrap (t200 - t199)) then (some (wrap64 (t196 + 1), t198)) else (some (t196, t198))))))) = some (r1, r2) := H
 have A3 := Aside0.mk A30
 clear A30
 by_cases c4 : t197 = 0
 ·rw [if_pos c4] at H
  have c4b0 : (t197 == 0) = true := beq_iff_eq.mpr c4
  have c4b1 : (t197 != 0) = false := bne_eq_false_iff_eq.mpr c4
  clear c4
  simp only [Option.some.injEq, Prod.mk.injEq] at H
  obtain ⟨rfl, rfl⟩ := H
  go_enter Try.func40, Try.ntmps40
  go_wp2_with (first | ((with_reducible refine gate_callee (f := 49) rfl ?_); refine goesL_ (some 12) rfl rfl Try.func49 (by kernel_rfl) rfl #[.int .i64 a0, .int .i64 a1] rfl (by (try simp only [List.map_toArray, List.map_cons, List.map_nil]); first | done | rfl | (simp only [List.length_drop, List.length_take]; rfl)) ?_; (with_reducible refine (num_divide.calls k a0 a1 t196 t197 t198 _ A3.out).mono ?_); rintro e w' ⟨rfl, ⟨nd, rfl⟩⟩; refine ⟨_, rfl, ?_⟩))
  go_ret2
  exact ⟨by first | rfl | (simp; done) | (simp [*]; done), by repeat (first | exact Drawn0.refl _ | apply Drawn0.step)⟩
 ·rw [if_neg c4] at H
  have c4b0 : (t197 == 0) = false := beq_eq_false_iff_ne.mpr c4
  have c4b1 : (t197 != 0) = true := bne_iff_ne.mpr c4
  replace H := Option.bind_eq_some_iff.mp H
  obtain ⟨t199, A50, H⟩ := H
  replace H : ((num_abs.f a1).bind fun t200 => ((num_abs.f t197).bind fun t201 => (if t199 ≥ (IntKind.u64.wrap (t200 - t199)) then (some (wrap64 (t196 + 1), t198)) else (some (t196, t198))))) = some (r1, r2) := H
  have A5 := Aside0.mk A50
  clear A50
  replace H := Option.bind_eq_some_iff.mp H
  obtain ⟨t200, A60, H⟩ := H
  replace H : ((num_abs.f t197).bind fun t201 => (if t199 ≥ (IntKind.u64.wrap (t200 - t199)) then (some (wrap64 (t196 + 1), t198)) else (some (t196, t198)))) = some (r1, r2) := H
  have A6 := Aside0.mk A60
  clear A60
  replace H := Option.bind_eq_some_iff.mp H
  obtain ⟨t201, A70, H⟩ := H
  replace H : (if t199 ≥ (IntKind.u64.wrap (t200 - t199)) then (some (wrap64 (t196 + 1), t198)) else (some (t196, t198))) = some (r1, r2) := H
  have A7 := Aside0.mk A70
  clear A70
  by_cases c8 : t199 ≥ (IntKind.u64.wrap (t200 - t199))
  ·rw [if_pos c8] at H
   have c8b0 : decide ((IntKind.u64.wrap (t200 - t199)) ≤ t199) = true := decide_eq_true c8
   clear c8
   simp only [Option.some.injEq, Prod.mk.injEq] at H
   obtain ⟨rfl, rfl⟩ := H
   go_enter Try.func40, Try.ntmps40
   go_wp2_with (first | ((with_reducible refine gate_callee (f := 49) rfl ?_); refine goesL_ (some 12) rfl rfl Try.func49 (by kernel_rfl) rfl #[.int .i64 a0, .int .i64 a1] rfl (by (try simp only [List.map_toArray, List.map_cons, List.map_nil]); first | done | rfl | (simp only [List.length_drop, List.length_take]; rfl)) ?_; (with_reducible refine (num_divide.calls k a0 a1 t196 t197 t198 _ A3.out).mono ?_); rintro e w' ⟨rfl, ⟨nd, rfl⟩⟩; refine ⟨_, rfl, ?_⟩) | (go_at_call 50; (with_reducible refine (num_abs.calls t197 t199 _ A5.out).mono ?_); rintro e w' ⟨rfl, ⟨nd, rfl⟩⟩) | (go_at_call 50; (with_reducible refine (num_abs.calls a1 t200 _ A6.out).mono ?_); rintro e w' ⟨rfl, ⟨nd, rfl⟩⟩) | (go_at_call 50; (with_reducible refine (num_abs.calls t197 t201 _ A7.out).mono ?_); rintro e w' ⟨rfl, ⟨nd, rfl⟩⟩))
   go_ret2
   exact ⟨by first | rfl | (simp; done) | (simp [*]; done), by repeat (first | exact Drawn0.refl _ | apply Drawn0.step)⟩
  ·rw [if_neg c8] at H
   have c8b0 : decide ((IntKind.u64.wrap (t200 - t199)) ≤ t199) = false := decide_eq_false c8
   clear c8
   simp only [Option.some.injEq, Prod.mk.injEq] at H
   obtain ⟨rfl, rfl⟩ := H
   go_enter Try.func40, Try.ntmps40
   go_wp2_with (first | ((with_reducible refine gate_callee (f := 49) rfl ?_); refine goesL_ (some 12) rfl rfl Try.func49 (by kernel_rfl) rfl #[.int .i64 a0, .int .i64 a1] rfl (by (try simp only [List.map_toArray, List.map_cons, List.map_nil]); first | done | rfl | (simp only [List.length_drop, List.length_take]; rfl)) ?_; (with_reducible refine (num_divide.calls k a0 a1 t196 t197 t198 _ A3.out).mono ?_); rintro e w' ⟨rfl, ⟨nd, rfl⟩⟩; refine ⟨_, rfl, ?_⟩) | (go_at_call 50; (with_reducible refine (num_abs.calls t197 t199 _ A5.out).mono ?_); rintro e w' ⟨rfl, ⟨nd, rfl⟩⟩) | (go_at_call 50; (with_reducible refine (num_abs.calls a1 t200 _ A6.out).mono ?_); rintro e w' ⟨rfl, ⟨nd, rfl⟩⟩) | (go_at_call 50; (with_reducible refine (num_abs.calls t197 t201 _ A7.out).mono ?_); rintro e w' ⟨rfl, ⟨nd, rfl⟩⟩))
   go_ret2
   exact ⟨by first | rfl | (simp; done) | (simp [*]; done), by repeat (first | exact Drawn0.refl _ | apply Drawn0.step)⟩

/-! ### sphere_vector: function 28 -/
def sphere_vector.f (k : Nat) (a0_0 : Int) (a0_1 : Int) : Option (Int × Int × Int) := (series_Cos.f k a0_1).bind fun t204 => ((series_Cos.f k a0_0).bind fun t205 => ((num_Round.f k (wrap64 (t204 * t205)) 1073741824).bind fun bt206 => ((series_Sin.f k a0_0).bind fun t208 => ((num_Round.f k (wrap64 (t204 * t208)) 1073741824).bind fun bt209 => ((series_Sin.f k a0_1).bind fun t211 => (some (bt206.1, bt209.1, t211)))))))
theorem sphere_vector.mono : ∀ a0 a1 k, LeO (sphere_vector.f k a0 a1) (sphere_vector.f (k + 1) a0 a1) := by
 intro a0 a1 k
 unfold sphere_vector.f
 repeat' first
   | (with_reducible exact num_Round.mono _ _ _)
   | (with_reducible exact series_Cos.mono _ _)
   | (with_reducible exact series_Sin.mono _ _)
   | (with_reducible exact LeO.refl _)
   | (with_reducible exact LeO.none _)
   | (with_reducible refine LeO.ite ?_ ?_)
   | (with_reducible refine LeO.bind ?_ (fun _ => ?_))
   | exact num_Round.mono _ _ _
   | exact series_Cos.mono _ _
   | exact series_Sin.mono _ _
   | exact LeO.none _
   | refine LeO.ite ?_ ?_
   | refine LeO.bind ?_ (fun _ => ?_)
set_option maxHeartbeats 8000000 in
set_option maxRecDepth 100000 in
theorem sphere_vector.calls (k : Nat) (a0_0 : Int) (a0_1 : Int) (r1 : Int) (r2 : Int) (r3 : Int) (w : World) (h : sphere_vector.f k a0_0 a0_1 = some (r1, r2, r3)) :
  Calls Try.prog 28 #[.agg #[.int .i64 a0_0, .int .i64 a0_1]] w fun e w' => e = .returned (.agg #[.int .i64 r1, .int .i64 r2, .int .i64 r3]) ∧ Below w.heap.size w w' := by
 have hu23 := Try.underlying23
 have hu48 := Try.underlying48
 have HB := Aside0.mk (Below.refl w.heap.size w)
 have H : ((series_Cos.f k a0_1).bind fun t204 => ((series_Cos.f k a0_0).bind fun t205 => ((num_Round.f k (wrap64 (t204 * t205)) 1073741824).bind fun bt206 => ((series_Sin.f k a0_0).bind fun t208 => ((num_Round.f k (wrap64 (t204 * t208)) 1073741824).bind fun bt209 => ((series_Sin.f k a0_1).bind fun t211 => (some (bt206.1, bt209.1, t211)))))))) = some (r1, r2, r3) := h
 clear h
 replace H := Option.bind_eq_some_iff.mp H
 obtain ⟨t204, A20, H⟩ := H
 replace H : ((series_Cos.f k a0_0).bind fun t205 => ((num_Round.f k (wrap64 (t204 * t205)) 1073741824).bind fun bt206 => ((series_Sin.f k a0_0).bind fun t208 => ((num_Round.f k (wrap64 (t204 * t208)) 1073741824).bind fun bt209 => ((series_Sin.f k a0_1).bind fun t211 => (some (bt206.1, bt209.1, t211))))))) = some (r1, r2, r3) := H
 have A2 := Aside0.mk A20
 clear A20
 replace H := Option.bind_eq_some_iff.mp H
 obtain ⟨t205, A30, H⟩ := H
 replace H : ((num_Round.f k (wrap64 (t204 * t205)) 1073741824).bind fun bt206 => ((series_Sin.f k a0_0).bind fun t208 => ((num_Round.f k (wrap64 (t204 * t208)) 1073741824).bind fun bt209 => ((series_Sin.f k a0_1).bind fun t211 => (some (bt206.1, bt209.1, t211)))))) = some (r1, r2, r3) := H
 have A3 := Aside0.mk A30
 clear A30
 replace H := Option.bind_eq_some_iff.mp H
 obtain ⟨⟨t206, t207⟩, A40, H⟩ := H
 replace H : ((series_Sin.f k a0_0).bind fun t208 => ((num_Round.f k (wrap64 (t204 * t208)) 1073741824).bind fun bt209 => ((series_Sin.f k a0_1).bind fun t211 => (some (t206, bt209.1, t211))))) = some (r1, r2, r3) := H
 have A4 := Aside0.mk A40
 clear A40
 replace H := Option.bind_eq_some_iff.mp H
 obtain ⟨t208, A50, H⟩ := H
 replace H : ((num_Round.f k (wrap64 (t204 * t208)) 1073741824).bind fun bt209 => ((series_Sin.f k a0_1).bind fun t211 => (some (t206, bt209.1, t211)))) = some (r1, r2, r3) := H
 have A5 := Aside0.mk A50
 clear A50
 replace H := Option.bind_eq_some_iff.mp H
 obtain ⟨⟨t209, t210⟩, A60, H⟩ := H
 replace H : ((series_Sin.f k a0_1).bind fun t211 => (some (t206, t209, t211))) = some (r1, r2, r3) := H
 have A6 := Aside0.mk A60
 clear A60
 replace H := Option.bind_eq_some_iff.mp H
 obtain ⟨t211, A70, H⟩ := H
 replace H : (some (t206, t209, t211)) = some (r1, r2, r3) := H
 have A7 := Aside0.mk A70
 clear A70
 simp only [Option.some.injEq, Prod.mk.injEq] at H
 obtain ⟨rfl, rfl, rfl⟩ := H
 go_enter Try.func28, Try.ntmps28
 go_wp2_with (first | ((with_reducible refine gate_dst (N := 1) rfl ?_); refine box_event ?hg (N := 1) ?hd (cs := #[.int .i64 a0_0, .int .i64 a0_1]) (t := 23) ?hr ?_; (case hd => rfl); (case hg => rfl); (case hr => first | (go_simp; done) | (go_simp; rfl)); intro gb202 hg w8 hbox hb; have n0_ := Aside0.mk (below_step (by with_reducible repeat first | exact HB.out | apply ba | apply bn | apply bd) hb); have n1_ := Aside0.mk (hbox); have n2_ := Aside0.mk ((by rw [hg]; exact (below_size (by with_reducible repeat first | exact HB.out | apply ba | apply bn | apply bd)) : w.heap.size ≤ gb202)); have n3_ := Aside0.mk ((by rw [hg]; exact (below_size (by with_reducible repeat first | exact HB.out | apply ba | apply bn | apply bd)) : w.heap.size ≤ gb202)); clear HB; have HB := n0_; have BK202 := n1_; have GW202 := n2_; have GE202 := n3_; clear n0_ n1_ n2_ n3_; clear hb hbox hg) | ((with_reducible refine gate_dst (N := 2) rfl ?_); refine box_event ?hg (N := 2) ?hd (cs := #[.int .i64 0, .int .i64 0, .int .i64 0]) (t := 48) ?hr ?_; (case hd => rfl); (case hg => rfl); (case hr => first | (go_simp; done) | (go_simp; rfl)); intro gb203 hg w9 hbox hb; have n0_ := Aside0.mk (blk_below (g := gb202) (o := .cells #[.int .i64 a0_0, .int .i64 a0_1] 23 (0, 0)) BK202.out hb); have n1_ := Aside0.mk (below_step (by with_reducible repeat first | exact HB.out | apply ba | apply bn | apply bd | refine bs ?_ GE202.out) hb); have n2_ := Aside0.mk (hbox); have n3_ := Aside0.mk ((by rw [hg]; exact (below_size (by with_reducible repeat first | exact HB.out | apply ba | apply bn | apply bd | refine bs ?_ GE202.out)) : w.heap.size ≤ gb203)); have n4_ := Aside0.mk ((by rw [hg]; exact (below_size (by with_reducible repeat first | exact HB.out | apply ba | apply bn | apply bd | refine bs ?_ GE202.out)) : w.heap.size ≤ gb203)); have n5_ := Aside0.mk ((by rw [hg]; exact Nat.ne_of_lt (blk_lt (g := gb202) (o := .cells #[.int .i64 a0_0, .int .i64 a0_1] 23 (0, 0)) BK202.out) : gb202 ≠ gb203)); have n6_ := Aside0.mk ((by rw [hg]; exact Nat.ne_of_gt (blk_lt (g := gb202) (o := .cells #[.int .i64 a0_0, .int .i64 a0_1] 23 (0, 0)) BK202.out) : gb203 ≠ gb202)); clear BK202; clear HB; have BK202 := n0_; have HB := n1_; have BK203 := n2_; have GW203 := n3_; have GE203 := n4_; have NB202_203 := n5_; have NB203_202 := n6_; clear n0_ n1_ n2_ n3_ n4_ n5_ n6_; clear hb hbox hg; have hnb10 := NB202_203.out; have hnc10 := NB203_202.out; have hcz11_0 : w9.cell? ⟨gb202, 0, none⟩ = some (.int .i64 a0_0) := (blk_cell BK202.out 0).trans rfl; have hcz11_1 : w9.cell? ⟨gb202, 1, none⟩ = some (.int .i64 a0_1) := (blk_cell BK202.out 1).trans rfl; have hfz11_0 := blk_frozen BK202.out 0; have hfz11_1 := blk_frozen BK202.out 1) | ((with_reducible refine gate_callee (f := 39) rfl ?_); refine goesL_ (some 10) rfl rfl Try.func39 (by kernel_rfl) rfl #[.int .i64 a0_1] rfl (by (try simp only [List.map_toArray, List.map_cons, List.map_nil]); first | done | rfl | (simp only [List.length_drop, List.length_take]; rfl)) ?_; (with_reducible refine (series_Cos.calls k a0_1 t204 _ A2.out).mono ?_); rintro e w12 ⟨rfl, hb⟩; refine ⟨_, rfl, ?_⟩; have n0_ := Aside0.mk (blk_below (g := gb202) (o := .cells #[.int .i64 a0_0, .int .i64 a0_1] 23 (0, 0)) BK202.out hb); have n1_ := Aside0.mk (blk_below (g := gb203) (o := .cells #[.int .i64 0, .int .i64 0, .int .i64 0] 48 (0, 0)) BK203.out hb); have n2_ := Aside0.mk (below_step (by with_reducible repeat first | exact HB.out | apply ba | apply bn | apply bd | refine bs ?_ GE202.out | refine bs ?_ GE203.out) hb); clear BK202; clear BK203; clear HB; have BK202 := n0_; have BK203 := n1_; have HB := n2_; clear n0_ n1_ n2_; (try clear hb); (try clear hb2); (try clear hk); (try clear hi); have hcz13_0 : w12.cell? ⟨gb202, 0, none⟩ = some (.int .i64 a0_0) := (blk_cell BK202.out 0).trans rfl; have hcz13_1 : w12.cell? ⟨gb202, 1, none⟩ = some (.int .i64 a0_1) := (blk_cell BK202.out 1).trans rfl; have hfz13_0 := blk_frozen BK202.out 0; have hfz13_1 := blk_frozen BK202.out 1) | ((with_reducible refine gate_callee (f := 39) rfl ?_); refine goesL_ (some 15) rfl rfl Try.func39 (by kernel_rfl) rfl #[.int .i64 a0_0] rfl (by (try simp only [List.map_toArray, List.map_cons, List.map_nil]); first | done | rfl | (simp only [List.length_drop, List.length_take]; rfl)) ?_; (with_reducible refine (series_Cos.calls k a0_0 t205 _ A3.out).mono ?_); rintro e w14 ⟨rfl, hb⟩; refine ⟨_, rfl, ?_⟩; have n0_ := Aside0.mk (blk_below (g := gb202) (o := .cells #[.int .i64 a0_0, .int .i64 a0_1] 23 (0, 0)) BK202.out hb); have n1_ := Aside0.mk (blk_below (g := gb203) (o := .cells #[.int .i64 0, .int .i64 0, .int .i64 0] 48 (0, 0)) BK203.out hb); have n2_ := Aside0.mk (below_step (by with_reducible repeat first | exact HB.out | apply ba | apply bn | apply bd | refine bs ?_ GE202.out | refine bs ?_ GE203.out) hb); clear BK202; clear BK203; clear HB; have BK202 := n0_; have BK203 := n1_; have HB := n2_; clear n0_ n1_ n2_; (try clear hb); (try clear hb2); (try clear hk); (try clear hi)) | ((with_reducible refine gate_callee (f := 40) rfl ?_); refine goesL_ (some 17) rfl rfl Try.func40 (by kernel_rfl) rfl #[.int .i64 (wrap64 (t204 * t205)), .int .i64 1073741824] rfl (by (try simp only [List.map_toArray, List.map_cons, List.map_nil]); first | done | rfl | (simp only [List.length_drop, List.length_take]; rfl)) ?_; (with_reducible refine (num_Round.calls k (wrap64 (t204 * t205)) 1073741824 t206 t207 _ A4.out).mono ?_); rintro e w' ⟨rfl, ⟨nd, rfl⟩⟩; refine ⟨_, rfl, ?_⟩; (try (rw [drewN_self w14]; generalize hq_ : World.drewN w14 _ = w14; have n0_ : Aside0 (w14.heap[gb202]? = some (.cells #[.int .i64 a0_0, .int .i64 a0_1] 23 (0, 0))) := ⟨by rw [← hq_]; exact BK202.out⟩; have n1_ : Aside0 (w14.heap[gb203]? = some (.cells #[.int .i64 0, .int .i64 0, .int .i64 0] 48 (0, 0))) := ⟨by rw [← hq_]; exact BK203.out⟩; have n2_ : Aside0 (Below w.heap.size w w14) := ⟨by rw [← hq_]; exact (by with_reducible repeat first | exact HB.out | apply ba | apply bn | apply bd | refine bs ?_ GE202.out | refine bs ?_ GE203.out)⟩; clear BK202 BK203 HB hq_; have BK202 := n0_; have BK203 := n1_; have HB := n2_; clear n0_ n1_ n2_)); have hcz15_0 : w14.cell? ⟨gb202, 0, none⟩ = some (.int .i64 a0_0) := (blk_cell BK202.out 0).trans rfl; have hcz15_1 : w14.cell? ⟨gb202, 1, none⟩ = some (.int .i64 a0_1) := (blk_cell BK202.out 1).trans rfl; have hfz15_0 := blk_frozen BK202.out 0; have hfz15_1 := blk_frozen BK202.out 1) | ((with_reducible refine gate_callee (f := 41) rfl ?_); refine goesL_ (some 24) rfl rfl Try.func41 (by kernel_rfl) rfl #[.int .i64 a0_0] rfl (by (try simp only [List.map_toArray, List.map_cons, List.map_nil]); first | done | rfl | (simp only [List.length_drop, List.length_take]; rfl)) ?_; (with_reducible refine (series_Sin.calls k a0_0 t208 _ A5.out).mono ?_); rintro e w16 ⟨rfl, hb⟩; refine ⟨_, rfl, ?_⟩; have n0_ := Aside0.mk (blk_below (g := gb202) (o := .cells #[.int .i64 a0_0, .int .i64 a0_1] 23 (0, 0)) BK202.out hb); have n1_ := Aside0.mk (blk_below (g := gb203) (o := .cells #[.int .i64 0, .int .i64 0, .int .i64 0] 48 (0, 0)) BK203.out hb); have n2_ := Aside0.mk (below_step (by with_reducible repeat first | exact HB.out | apply ba | apply bn | apply bd | refine bs ?_ GE202.out | refine bs ?_ GE203.out) hb); clear BK202; clear BK203; clear HB; have BK202 := n0_; have BK203 := n1_; have HB := n2_; clear n0_ n1_ n2_; (try clear hb); (try clear hb2); (try clear hk); (try clear hi)) | ((with_reducible refine gate_callee (f := 40) rfl ?_); refine goesL_ (some 26) rfl rfl Try.func40 (by kernel_rfl) rfl #[.int .i64 (wrap64 (t204 * t208)), .int .i64 1073741824] rfl (by (try simp only [List.map_toArray, List.map_cons, List.map_nil]); first | done | rfl | (simp only [List.length_drop, List.length_take]; rfl)) ?_; (with_reducible refine (num_Round.calls k (wrap64 (t204 * t208)) 1073741824 t209 t210 _ A6.out).mono ?_); rintro e w' ⟨rfl, ⟨nd, rfl⟩⟩; refine ⟨_, rfl, ?_⟩; (try (rw [drewN_self w16]; generalize hq_ : World.drewN w16 _ = w16; have n0_ : Aside0 (w16.heap[gb202]? = some (.cells #[.int .i64 a0_0, .int .i64 a0_1] 23 (0, 0))) := ⟨by rw [← hq_]; exact BK202.out⟩; have n1_ : Aside0 (w16.heap[gb203]? = some (.cells #[.int .i64 0, .int .i64 0, .int .i64 0] 48 (0, 0))) := ⟨by rw [← hq_]; exact BK203.out⟩; have n2_ : Aside0 (Below w.heap.size w w16) := ⟨by rw [← hq_]; exact (by with_reducible repeat first | exact HB.out | apply ba | apply bn | apply bd | refine bs ?_ GE202.out | refine bs ?_ GE203.out)⟩; clear BK202 BK203 HB hq_; have BK202 := n0_; have BK203 := n1_; have HB := n2_; clear n0_ n1_ n2_)); have hcz17_0 : w16.cell? ⟨gb202, 0, none⟩ = some (.int .i64 a0_0) := (blk_cell BK202.out 0).trans rfl; have hcz17_1 : w16.cell? ⟨gb202, 1, none⟩ = some (.int .i64 a0_1) := (blk_cell BK202.out 1).trans rfl; have hfz17_0 := blk_frozen BK202.out 0; have hfz17_1 := blk_frozen BK202.out 1) | ((with_reducible refine gate_callee (f := 41) rfl ?_); refine goesL_ (some 33) rfl rfl Try.func41 (by kernel_rfl) rfl #[.int .i64 a0_1] rfl (by (try simp only [List.map_toArray, List.map_cons, List.map_nil]); first | done | rfl | (simp only [List.length_drop, List.length_take]; rfl)) ?_; (with_reducible refine (series_Sin.calls k a0_1 t211 _ A7.out).mono ?_); rintro e w18 ⟨rfl, hb⟩; refine ⟨_, rfl, ?_⟩; have n0_ := Aside0.mk (blk_below (g := gb202) (o := .cells #[.int .i64 a0_0, .int .i64 a0_1] 23 (0, 0)) BK202.out hb); have n1_ := Aside0.mk (blk_below (g := gb203) (o := .cells #[.int .i64 0, .int .i64 0, .int .i64 0] 48 (0, 0)) BK203.out hb); have n2_ := Aside0.mk (below_step (by with_reducible repeat first | exact HB.out | apply ba | apply bn | apply bd | refine bs ?_ GE202.out | refine bs ?_ GE203.out) hb); clear BK202; clear BK203; clear HB; have BK202 := n0_; have BK203 := n1_; have HB := n2_; clear n0_ n1_ n2_; (try clear hb); (try clear hb2); (try clear hk); (try clear hi); have hcz19_0 : w18.cell? ⟨gb203, 0, none⟩ = some (.int .i64 0) := (blk_cell BK203.out 0).trans rfl; have hcz19_1 : w18.cell? ⟨gb203, 1, none⟩ = some (.int .i64 0) := (blk_cell BK203.out 1).trans rfl; have hcz19_2 : w18.cell? ⟨gb203, 2, none⟩ = some (.int .i64 0) := (blk_cell BK203.out 2).trans rfl; have hfz19_0 := blk_frozen BK203.out 0; have hfz19_1 := blk_frozen BK203.out 1; have hfz19_2 := blk_frozen BK203.out 2))
 refine bodyPost_ret (results_cell_row rfl _ _ gb203 48 #[.int .i64 t206, .int .i64 t209, .int .i64 t211] (0, 0) _ rfl (by (with_reducible repeat first | refine n_ ?_ _ | refine d_ ?_ | refine a_ ?_ _); refine blk_put (cs := #[.int .i64 t206, .int .i64 t209, .int .i64 0]) ?_ 2 _ rfl; (with_reducible repeat first | refine n_ ?_ _ | refine d_ ?_ | refine a_ ?_ _); refine blk_put (cs := #[.int .i64 t206, .int .i64 0, .int .i64 0]) ?_ 1 _ rfl; (with_reducible repeat first | refine n_ ?_ _ | refine d_ ?_ | refine a_ ?_ _); refine blk_put (cs := #[.int .i64 0, .int .i64 0, .int .i64 0]) ?_ 0 _ rfl; (with_reducible repeat first | refine n_ ?_ _ | refine d_ ?_ | refine a_ ?_ _); exact BK203.out) Try.underlying48 rfl (by kernel_rfl)) rfl ?_
 exact ⟨by first | rfl | (simp [errW_none, errW_some] <;> rfl) | (simp [*, errW_none, errW_some] <;> rfl), by with_reducible repeat first | exact HB.out | apply ba | apply bn | apply bd | refine bs ?_ GE202.out | refine bs ?_ GE203.out⟩

/-! ### num_Sqrt: function 29 -/
def num_Sqrt.l0 : Nat → Int → Int → Int → Option (Int)
 | 0, _, _, _ => none
 | k + 1, x0, x3, x6 => if x6 < 32 then (if 0 ≤ (wrap64 (31 - x6)) then (if x0 > 0 then (if (Go.bits .or .i64 x3 (shl .i64 1 (wrap64 (31 - x6)))) = 0 then (none) else (if (Go.bits .or .i64 x3 (shl .i64 1 (wrap64 (31 - x6)))) ≤ (wrap64 (Int.tdiv x0 (Go.bits .or .i64 x3 (shl .i64 1 (wrap64 (31 - x6)))))) then (num_Sqrt.l0 k x0 (Go.bits .or .i64 x3 (shl .i64 1 (wrap64 (31 - x6)))) (wrap64 (x6 + 1))) else (num_Sqrt.l0 k x0 x3 (wrap64 (x6 + 1))))) else (num_Sqrt.l0 k x0 x3 (wrap64 (x6 + 1)))) else (none)) else (some x3)
def num_Sqrt.f (k : Nat) (a0 : Int) : Option (Int) := num_Sqrt.l0 k a0 0 0
theorem num_Sqrt.mono_l : ∀ k, (∀ y0 y1 y2, LeO (num_Sqrt.l0 k y0 y1 y2) (num_Sqrt.l0 (k + 1) y0 y1 y2))
 | 0 => fun _ _ _ r h => by simp [num_Sqrt.l0] at h
 | k + 1 => by
  have ih0 := num_Sqrt.mono_l k
  ·intro y0 y1 y2
   unfold num_Sqrt.l0
   repeat' first
   | (with_reducible exact ih0 _ _ _)
   | (with_reducible exact LeO.refl _)
   | (with_reducible exact LeO.none _)
   | (with_reducible refine LeO.ite ?_ ?_)
   | (with_reducible refine LeO.bind ?_ (fun _ => ?_))
   | exact ih0 _ _ _
   | exact LeO.none _
   | refine LeO.ite ?_ ?_
   | refine LeO.bind ?_ (fun _ => ?_)
theorem num_Sqrt.mono : ∀ a0 k, LeO (num_Sqrt.f k a0) (num_Sqrt.f (k + 1) a0) := by
 intro a0 k
 have ih0 := num_Sqrt.mono_l k
 unfold num_Sqrt.f
 repeat' first
   | (with_reducible exact ih0 _ _ _)
   | (with_reducible exact LeO.refl _)
   | (with_reducible exact LeO.none _)
   | (with_reducible refine LeO.ite ?_ ?_)
   | (with_reducible refine LeO.bind ?_ (fun _ => ?_))
   | exact ih0 _ _ _
   | exact LeO.none _
   | refine LeO.ite ?_ ?_
   | refine LeO.bind ?_ (fun _ => ?_)
set_option maxHeartbeats 8000000 in
set_option maxRecDepth 100000 in
theorem num_Sqrt.calls (k : Nat) (a0 : Int) (r : Int) (w : World) (h : num_Sqrt.f k a0 = some r) :
  Calls Try.prog 29 #[.int .i64 a0] w fun e w' => e = .returned (.int .i64 r) ∧ Drawn0 w w' := by
 have H : (num_Sqrt.l0 k a0 0 0) = some r := h
 clear h
 have H' := Aside0.mk H
 clear H
 go_enter Try.func29, Try.ntmps29
 go_wp2
 go_loopg [3, 6] k (fun kq v3 v6 w' => ∃ (x3_1 : Int) (x6_1 : Int), v3 = .int .i64 x3_1 ∧ v6 = .int .i64 x6_1 ∧ Aside0 (num_Sqrt.l0 kq a0 x3_1 x6_1 = some r) ∧ Aside0 (kq ≤ k) ∧ Drawn0 w w')
 case atStart => exact ⟨(0), (0), (by first | rfl | (simp; done) | (simp [*]; done)), (by first | rfl | (simp; done) | (simp [*]; done)), H', ⟨Nat.le_refl _⟩, by repeat (first | exact Drawn0.refl _ | apply Drawn0.step)⟩
 case round =>
  clear H'
  obtain ⟨x3_1, x6_1, rfl, rfl, HA, HK1, ⟨m1, rfl⟩⟩ := hrel
  cases gk with
  | zero => exact absurd HA.out (by simp [num_Sqrt.l0])
  | succ k1 =>
   have H := HA.out
   clear HA
   simp only [num_Sqrt.l0] at H
   by_cases c2 : x6_1 < 32
   ·rw [if_pos c2] at H
    have c2b0 : decide (x6_1 < 32) = true := decide_eq_true c2
    clear c2
    obtain ⟨ji3, hji3⟩ : ∃ j_ : Int, (wrap64 (31 - x6_1)) = j_ := ⟨_, rfl⟩
    replace H : (if 0 ≤ (ji3) then (if a0 > 0 then (if (Go.bits .or .i64 x3_1 (shl .i64 1 (ji3))) = 0 then (none) else (if (Go.bits .or .i64 x3_1 (shl .i64 1 (ji3))) ≤ (wrap64 (Int.tdiv a0 (Go.bits .or .i64 x3_1 (shl .i64 1 (ji3))))) then (num_Sqrt.l0 k1 a0 (Go.bits .or .i64 x3_1 (shl .i64 1 (ji3))) (wrap64 (x6_1 + 1))) else (num_Sqrt.l0 k1 a0 x3_1 (wrap64 (x6_1 + 1))))) else (num_Sqrt.l0 k1 a0 x3_1 (wrap64 (x6_1 + 1)))) else (none)) = some r := by first | (rw [hji3] at H; exact H) | (simp only [hji3] at H ⊢; exact H)
    have hji3w : (IntKind.i64.wrap (31 - x6_1)) = ji3 := (i64_w _).trans hji3
    by_cases c4 : 0 ≤ (ji3)
    ·rw [if_pos c4] at H
     have c4b0 := eq_true c4
     have c4b1 : decide (0 ≤ (ji3)) = true := decide_eq_true c4
     clear c4
     obtain ⟨ji5, hji5⟩ : ∃ j_ : Int, (shl .i64 1 (ji3)) = j_ := ⟨_, rfl⟩
     replace H : (if a0 > 0 then (if (Go.bits .or .i64 x3_1 (ji5)) = 0 then (none) else (if (Go.bits .or .i64 x3_1 (ji5)) ≤ (wrap64 (Int.tdiv a0 (Go.bits .or .i64 x3_1 (ji5)))) then (num_Sqrt.l0 k1 a0 (Go.bits .or .i64 x3_1 (ji5)) (wrap64 (x6_1 + 1))) else (num_Sqrt.l0 k1 a0 x3_1 (wrap64 (x6_1 + 1))))) else (num_Sqrt.l0 k1 a0 x3_1 (wrap64 (x6_1 + 1)))) = some r := by first | (rw [hji5] at H; exact H) | (simp only [hji5] at H ⊢; exact H)
     have hji5_ : (IntKind.i64.wrap (1 * 2 ^ min (ji3).toNat 64)) = ji5 := hji5
     have hji5z : (ji3) ≤ 64 → (IntKind.i64.wrap (1 * 2 ^ (ji3).toNat)) = ji5 := shl_small hji5
     have hji5u : (IntKind.i64.wrap (2 ^ min (ji3).toNat 64)) = ji5 := by have h_ := hji5_; rw [Int.one_mul] at h_; exact h_
     have hji5v : (ji3) ≤ 64 → (IntKind.i64.wrap (2 ^ (ji3).toNat)) = ji5 := fun hle_ => by have h_ := hji5z hle_; rw [Int.one_mul] at h_; exact h_
     have hji5y : (wrap64 (1 * 2 ^ min (ji3).toNat 64)) = ji5 := (i64_w _).symm.trans hji5_
     have hji5x : (ji3) ≤ 64 → (wrap64 (1 * 2 ^ (ji3).toNat)) = ji5 := fun h_ => (i64_w _).symm.trans (hji5z h_)
     by_cases c6 : a0 > 0
     ·rw [if_pos c6] at H
      have c6b0 : decide (0 < a0) = true := decide_eq_true c6
      clear c6
      by_cases c7 : (Go.bits .or .i64 x3_1 (ji5)) = 0
      ·rw [if_pos c7] at H
       exact absurd H (by simp)
      ·rw [if_neg c7] at H
       have c7b0 : ((Go.bits .or .i64 x3_1 (ji5)) == 0) = false := beq_eq_false_iff_ne.mpr c7
       have c7b1 : ((Go.bits .or .i64 x3_1 (ji5)) != 0) = true := bne_iff_ne.mpr c7
       by_cases c8 : (Go.bits .or .i64 x3_1 (ji5)) ≤ (wrap64 (Int.tdiv a0 (Go.bits .or .i64 x3_1 (ji5))))
       ·rw [if_pos c8] at H
        have c8b0 : decide ((Go.bits .or .i64 x3_1 (ji5)) ≤ (wrap64 (Int.tdiv a0 (Go.bits .or .i64 x3_1 (ji5))))) = true := decide_eq_true c8
        clear c8
        have H' := Aside0.mk H
        clear H
        go_wp2
        go_roundg k1
        case measure => have := HK1.out; omega
        case rel => exact ⟨(Go.bits .or .i64 x3_1 (ji5)), (wrap64 (x6_1 + 1)), (by first | rfl | (simp; done) | (simp only [← hji5] <;> (first | rfl | simp)) | (simp [*]; done)), (by first | rfl | (simp; done) | (simp [*]; done)), H', ⟨by have := HK1.out; omega⟩, by repeat (first | exact Drawn0.refl _ | apply Drawn0.step)⟩
       ·rw [if_neg c8] at H
        have c8b0 : decide ((Go.bits .or .i64 x3_1 (ji5)) ≤ (wrap64 (Int.tdiv a0 (Go.bits .or .i64 x3_1 (ji5))))) = false := decide_eq_false c8
        clear c8
        have H' := Aside0.mk H
        clear H
        go_wp2
        go_roundg k1
        case measure => have := HK1.out; omega
        case rel => exact ⟨(x3_1), (wrap64 (x6_1 + 1)), (by first | rfl | (simp; done) | (simp [*]; done)), (by first | rfl | (simp; done) | (simp [*]; done)), H', ⟨by have := HK1.out; omega⟩, by repeat (first | exact Drawn0.refl _ | apply Drawn0.step)⟩
     ·rw [if_neg c6] at H
      have c6b0 : decide (0 < a0) = false := decide_eq_false c6
      clear c6
      have H' := Aside0.mk H
      clear H
      go_wp2
      go_roundg k1
      case measure => have := HK1.out; omega
      case rel => exact ⟨(x3_1), (wrap64 (x6_1 + 1)), (by first | rfl | (simp; done) | (simp [*]; done)), (by first | rfl | (simp; done) | (simp [*]; done)), H', ⟨by have := HK1.out; omega⟩, by repeat (first | exact Drawn0.refl _ | apply Drawn0.step)⟩
    ·rw [if_neg c4] at H
     exact absurd H (by simp)
   ·rw [if_neg c2] at H
    have c2b0 : decide (x6_1 < 32) = false := decide_eq_false c2
    clear c2
    obtain rfl := Option.some.inj H
    go_wp2
    go_ret
    exact ⟨by first | rfl | (simp; done) | (simp [*]; done), by repeat (first | exact Drawn0.refl _ | apply Drawn0.step)⟩

end Go.Proofs.Yteojklacaecmpaa.P
