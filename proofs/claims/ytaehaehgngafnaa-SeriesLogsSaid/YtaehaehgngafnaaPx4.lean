-- Written by wip/tools/xprint.py (this session's program, over the kit's print.py) for this seat.
import Derived.Test.YtaehaehgngafnaaPx0
import Derived.Test.YtaehaehgngafnaaPx1
import Derived.Test.YtaehaehgngafnaaPx2
import Derived.Test.YtaehaehgngafnaaPx3
namespace Go.Proofs.Ytaehaehgngafnaa.P
open Go.RowKit Go.Proofs.YtaehaehgngafnaaW.PrintWords Go.Proofs.YtaehaehgngafnaaW.PrintLast Go.Proofs.YtaehaehgngafnaaW.PrintMore
attribute [local go_sem] max2_int min2_int max_two min_two max_three min_three max_four min_four   -- for this text's walks alone
set_option linter.unusedVariables false
set_option linter.unusedSimpArgs false

/-! ### series_logarithm: function 35 -/
mutual
def series_logarithm.j0 : Nat → Int → Int → Option (Int)
  | 0, _, _ => none
  | k + 1, x3, x4 => (series_muldiv.f k (wrap64 (x4 - 72057594037927936)) 72057594037927936 (wrap64 (x4 + 72057594037927936))).bind fun t151 => ((series_muldiv.f k t151 t151 72057594037927936).bind fun t152 => (series_logarithm.l0 k x3 t152 0 t151 0))
def series_logarithm.l0 : Nat → Int → Int → Int → Int → Int → Option (Int)
  | 0, _, _, _, _, _ => none
  | k + 1, x3, x6, x7, x8, x34 => if x34 < 21 then (if (wrap64 ((wrap64 (2 * x34)) + 1)) = 0 then (none) else ((series_muldiv.f k x8 x6 72057594037927936).bind fun t153 => (series_logarithm.l0 k x3 x6 (wrap64 (x7 + (wrap64 (Int.tdiv x8 (wrap64 ((wrap64 (2 * x34)) + 1)))))) t153 (wrap64 (x34 + 1))))) else (some (wrap64 ((wrap64 (x3 * 49946518145322873)) + (wrap64 (2 * x7)))))
end
def series_logarithm.f (k : Nat) (a0 : Int) : Option (Int) := (bits_Len64.f (IntKind.u64.wrap (a0))).bind fun t150 => (if (wrap64 (t150 - 31)) ≤ 26 then (if 0 ≤ (wrap64 (26 - (wrap64 (t150 - 31)))) then (series_logarithm.j0 k (wrap64 (t150 - 31)) (shl .i64 a0 (wrap64 (26 - (wrap64 (t150 - 31)))))) else (none)) else (if 0 ≤ (wrap64 ((wrap64 (t150 - 31)) - 26)) then (series_logarithm.j0 k (wrap64 (t150 - 31)) (shr .i64 a0 (wrap64 ((wrap64 (t150 - 31)) - 26)))) else (none)))
theorem series_logarithm.mono_l : ∀ k, (∀ y0 y1, LeO (series_logarithm.j0 k y0 y1) (series_logarithm.j0 (k + 1) y0 y1)) ∧ (∀ y0 y1 y2 y3 y4, LeO (series_logarithm.l0 k y0 y1 y2 y3 y4) (series_logarithm.l0 (k + 1) y0 y1 y2 y3 y4))
  | 0 => ⟨fun _ _ r h => by simp [series_logarithm.j0] at h, fun _ _ _ _ _ r h => by simp [series_logarithm.l0] at h⟩
  | k + 1 => by
    obtain ⟨ih0, ih1⟩ := series_logarithm.mono_l k
    refine ⟨?_, ?_⟩
    · intro y0 y1
      unfold series_logarithm.j0
      repeat' first
      | (with_reducible exact ih0 _ _)
      | (with_reducible exact ih1 _ _ _ _ _)
      | (with_reducible exact series_muldiv.mono _ _ _ _)
      | (with_reducible exact LeO.refl _)
      | (with_reducible exact LeO.none _)
      | (with_reducible refine LeO.ite ?_ ?_)
      | (with_reducible refine LeO.bind ?_ (fun _ => ?_))
      | exact ih0 _ _
      | exact ih1 _ _ _ _ _
      | exact series_muldiv.mono _ _ _ _
      | exact LeO.none _
      | refine LeO.ite ?_ ?_
      | refine LeO.bind ?_ (fun _ => ?_)
    · intro y0 y1 y2 y3 y4
      unfold series_logarithm.l0
      repeat' first
      | (with_reducible exact ih0 _ _)
      | (with_reducible exact ih1 _ _ _ _ _)
      | (with_reducible exact series_muldiv.mono _ _ _ _)
      | (with_reducible exact LeO.refl _)
      | (with_reducible exact LeO.none _)
      | (with_reducible refine LeO.ite ?_ ?_)
      | (with_reducible refine LeO.bind ?_ (fun _ => ?_))
      | exact ih0 _ _
      | exact ih1 _ _ _ _ _
      | exact series_muldiv.mono _ _ _ _
      | exact LeO.none _
      | refine LeO.ite ?_ ?_
      | refine LeO.bind ?_ (fun _ => ?_)
theorem series_logarithm.mono : ∀ a0 k, LeO (series_logarithm.f k a0) (series_logarithm.f (k + 1) a0) := by
  intro a0 k
  obtain ⟨ih0, ih1⟩ := series_logarithm.mono_l k
  unfold series_logarithm.f
  repeat' first
      | (with_reducible exact ih0 _ _)
      | (with_reducible exact ih1 _ _ _ _ _)
      | (with_reducible exact series_muldiv.mono _ _ _ _)
      | (with_reducible exact LeO.refl _)
      | (with_reducible exact LeO.none _)
      | (with_reducible refine LeO.ite ?_ ?_)
      | (with_reducible refine LeO.bind ?_ (fun _ => ?_))
      | exact ih0 _ _
      | exact ih1 _ _ _ _ _
      | exact series_muldiv.mono _ _ _ _
      | exact LeO.none _
      | refine LeO.ite ?_ ?_
      | refine LeO.bind ?_ (fun _ => ?_)
set_option maxHeartbeats 8000000 in
set_option maxRecDepth 100000 in
theorem series_logarithm.calls (k : Nat) (a0 : Int) (r : Int) (w : World) (h : series_logarithm.f k a0 = some r) :
    Calls Try.prog 35 #[.int .i64 a0] w fun e w' => e = .returned (.int .i64 r) ∧ Drawn0 w w' := by
  have H : ((bits_Len64.f (IntKind.u64.wrap (a0))).bind fun t150 => (if (wrap64 (t150 - 31)) ≤ 26 then (if 0 ≤ (wrap64 (26 - (wrap64 (t150 - 31)))) then (series_logarithm.j0 k (wrap64 (t150 - 31)) (shl .i64 a0 (wrap64 (26 - (wrap64 (t150 - 31)))))) else (none)) else (if 0 ≤ (wrap64 ((wrap64 (t150 - 31)) - 26)) then (series_logarithm.j0 k (wrap64 (t150 - 31)) (shr .i64 a0 (wrap64 ((wrap64 (t150 - 31)) - 26)))) else (none)))) = some r := h
  clear h
  replace H := Option.bind_eq_some_iff.mp H
  obtain ⟨t150, A20, H⟩ := H
  replace H : (if (wrap64 (t150 - 31)) ≤ 26 then (if 0 ≤ (wrap64 (26 - (wrap64 (t150 - 31)))) then (series_logarithm.j0 k (wrap64 (t150 - 31)) (shl .i64 a0 (wrap64 (26 - (wrap64 (t150 - 31)))))) else (none)) else (if 0 ≤ (wrap64 ((wrap64 (t150 - 31)) - 26)) then (series_logarithm.j0 k (wrap64 (t150 - 31)) (shr .i64 a0 (wrap64 ((wrap64 (t150 - 31)) - 26)))) else (none))) = some r := H
  have A2 := Aside0.mk A20
  clear A20
  have HC3 := Aside0.mk H
  clear H
  go_enter Try.func35, Try.ntmps35
  go_upto_if 16 with (first | ((with_reducible refine gate_callee (f := 43) rfl ?_); refine goesL_ (some 12) rfl rfl Try.func43 (by kernel_rfl) rfl #[.int .u64 (IntKind.u64.wrap (a0))] rfl (by (try simp only [List.map_toArray, List.map_cons, List.map_nil]); first | done | rfl | (simp only [List.length_drop, List.length_take]; rfl)) ?_; (with_reducible refine (bits_Len64.calls (IntKind.u64.wrap (a0)) t150 _ A2.out).mono ?_); rintro e w' ⟨rfl, ⟨nd, rfl⟩⟩; refine ⟨_, rfl, ?_⟩))
  (try simp only [Act.put, List.setIfInBounds_toArray, List.set_cons_zero, List.set_cons_succ])
  go_cut [4] (fun v4 wc => ∃ (kq : Nat) (x4_2 : Int), v4 = .int .i64 x4_2 ∧ Aside0 (series_logarithm.j0 kq (wrap64 (t150 - 31)) x4_2 = some r) ∧ Aside0 (kq ≤ k) ∧ Drawn0 w wc)
  case first =>
    have H := HC3.out
    clear HC3
    by_cases c4 : (wrap64 (t150 - 31)) ≤ 26
    · rw [if_pos c4] at H
      have c4b0 : decide ((wrap64 (t150 - 31)) ≤ 26) = true := decide_eq_true c4
      clear c4
      (first | rw [c4b0] | (simp only [i64_w, i32_w]; rw [c4b0]) | skip)
      obtain ⟨ji5, hji5⟩ : ∃ j_ : Int, (wrap64 (26 - (wrap64 (t150 - 31)))) = j_ := ⟨_, rfl⟩
      replace H : (if 0 ≤ (ji5) then (series_logarithm.j0 k (wrap64 (t150 - 31)) (shl .i64 a0 (ji5))) else (none)) = some r := by first | (rw [hji5] at H; exact H) | (simp only [hji5] at H ⊢; exact H)
      have hji5w : (IntKind.i64.wrap (26 - (wrap64 (t150 - 31)))) = ji5 := (i64_w _).trans hji5
      by_cases c6 : 0 ≤ (ji5)
      · rw [if_pos c6] at H
        have c6b0 := eq_true c6
        have c6b1 : decide (0 ≤ (ji5)) = true := decide_eq_true c6
        clear c6
        obtain ⟨ji7, hji7⟩ : ∃ j_ : Int, (shl .i64 a0 (ji5)) = j_ := ⟨_, rfl⟩
        replace H : (series_logarithm.j0 k (wrap64 (t150 - 31)) ji7) = some r := by first | (rw [hji7] at H; exact H) | (simp only [hji7] at H ⊢; exact H)
        have hji7_ : (IntKind.i64.wrap (a0 * 2 ^ min (ji5).toNat 64)) = ji7 := hji7
        have hji7z : (ji5) ≤ 64 → (IntKind.i64.wrap (a0 * 2 ^ (ji5).toNat)) = ji7 := shl_small hji7
        have hji7y : (wrap64 (a0 * 2 ^ min (ji5).toNat 64)) = ji7 := (i64_w _).symm.trans hji7_
        have hji7x : (ji5) ≤ 64 → (wrap64 (a0 * 2 ^ (ji5).toNat)) = ji7 := fun h_ => (i64_w _).symm.trans (hji7z h_)
        have H' := Aside0.mk H
        clear H
        go_wp2
        go_meet
        case rel => exact ⟨_, (ji7), (by first | rfl | (simp; done) | (simp only [← hji7] <;> (first | rfl | simp)) | (simp [*]; done)), H', ⟨by first | omega | exact Nat.le_refl _⟩, by repeat (first | exact Drawn0.refl _ | apply Drawn0.step)⟩
      · rw [if_neg c6] at H
        exact absurd H (by simp)
    · rw [if_neg c4] at H
      have c4b0 : decide ((wrap64 (t150 - 31)) ≤ 26) = false := decide_eq_false c4
      clear c4
      (first | rw [c4b0] | (simp only [i64_w, i32_w]; rw [c4b0]) | skip)
      obtain ⟨ji8, hji8⟩ : ∃ j_ : Int, (wrap64 ((wrap64 (t150 - 31)) - 26)) = j_ := ⟨_, rfl⟩
      replace H : (if 0 ≤ (ji8) then (series_logarithm.j0 k (wrap64 (t150 - 31)) (shr .i64 a0 (ji8))) else (none)) = some r := by first | (rw [hji8] at H; exact H) | (simp only [hji8] at H ⊢; exact H)
      have hji8w : (IntKind.i64.wrap ((wrap64 (t150 - 31)) - 26)) = ji8 := (i64_w _).trans hji8
      by_cases c9 : 0 ≤ (ji8)
      · rw [if_pos c9] at H
        have c9b0 := eq_true c9
        have c9b1 : decide (0 ≤ (ji8)) = true := decide_eq_true c9
        clear c9
        obtain ⟨ji10, hji10⟩ : ∃ j_ : Int, (shr .i64 a0 (ji8)) = j_ := ⟨_, rfl⟩
        replace H : (series_logarithm.j0 k (wrap64 (t150 - 31)) ji10) = some r := by first | (rw [hji10] at H; exact H) | (simp only [hji10] at H ⊢; exact H)
        have hji10_ : (a0 / 2 ^ min (ji8).toNat 64) = ji10 := hji10
        have hji10z : (ji8) ≤ 64 → (a0 / 2 ^ (ji8).toNat) = ji10 := shr_small hji10
        have H' := Aside0.mk H
        clear H
        go_wp2
        go_meet
        case rel => exact ⟨_, (ji10), (by first | rfl | (simp; done) | (simp only [← hji10] <;> (first | rfl | simp)) | (simp [*]; done)), H', ⟨by first | omega | exact Nat.le_refl _⟩, by repeat (first | exact Drawn0.refl _ | apply Drawn0.step)⟩
      · rw [if_neg c9] at H
        exact absurd H (by simp)
  case rest =>
    clear HC3
    try clear p2
    try clear c3
    try clear c4
    try clear c4b0
    try clear c6
    try clear c6b0
    try clear c6b1
    try clear p6
    try clear c9
    try clear c9b0
    try clear c9b1
    obtain ⟨kq, x4_2, rfl, HA, HJ2, ⟨mc2, rfl⟩⟩ := hcut
    cases kq with
    | zero => exact absurd HA.out (by simp [series_logarithm.j0])
    | succ kj2 =>
      have H := HA.out
      clear HA
      simp only [series_logarithm.j0] at H
      replace H := Option.bind_eq_some_iff.mp H
      obtain ⟨t151, A110, H⟩ := H
      replace H : ((series_muldiv.f kj2 t151 t151 72057594037927936).bind fun t152 => (series_logarithm.l0 kj2 (wrap64 (t150 - 31)) t152 0 t151 0)) = some r := H
      have A11 := Aside0.mk A110
      clear A110
      replace H := Option.bind_eq_some_iff.mp H
      obtain ⟨t152, A120, H⟩ := H
      replace H : (series_logarithm.l0 kj2 (wrap64 (t150 - 31)) t152 0 t151 0) = some r := H
      have A12 := Aside0.mk A120
      clear A120
      have H' := Aside0.mk H
      clear H
      go_wp2_with (first | ((with_reducible refine gate_callee (f := 40) rfl ?_); refine goesL_ (some 29) rfl rfl Try.func40 (by kernel_rfl) rfl #[.int .i64 (wrap64 (x4_2 - 72057594037927936)), .int .i64 72057594037927936, .int .i64 (wrap64 (x4_2 + 72057594037927936))] rfl (by (try simp only [List.map_toArray, List.map_cons, List.map_nil]); first | done | rfl | (simp only [List.length_drop, List.length_take]; rfl)) ?_; (with_reducible refine (series_muldiv.calls kj2 (wrap64 (x4_2 - 72057594037927936)) 72057594037927936 (wrap64 (x4_2 + 72057594037927936)) t151 _ A11.out).mono ?_); rintro e w' ⟨rfl, ⟨nd, rfl⟩⟩; refine ⟨_, rfl, ?_⟩) | ((with_reducible refine gate_callee (f := 40) rfl ?_); refine goesL_ (some 32) rfl rfl Try.func40 (by kernel_rfl) rfl #[.int .i64 t151, .int .i64 t151, .int .i64 72057594037927936] rfl (by (try simp only [List.map_toArray, List.map_cons, List.map_nil]); first | done | rfl | (simp only [List.length_drop, List.length_take]; rfl)) ?_; (with_reducible refine (series_muldiv.calls kj2 t151 t151 72057594037927936 t152 _ A12.out).mono ?_); rintro e w' ⟨rfl, ⟨nd, rfl⟩⟩; refine ⟨_, rfl, ?_⟩))
      go_loopg [7, 8, 34] kj2 (fun kq v7 v8 v34 w' => ∃ (x7_2 : Int) (x8_2 : Int) (x34_2 : Int), v7 = .int .i64 x7_2 ∧ v8 = .int .i64 x8_2 ∧ v34 = .int .i64 x34_2 ∧ Aside0 (series_logarithm.l0 kq (wrap64 (t150 - 31)) t152 x7_2 x8_2 x34_2 = some r) ∧ Aside0 (kq ≤ kj2) ∧ Drawn0 w w')
      case atStart => exact ⟨(0), (t151), (0), (by first | rfl | (simp; done) | (simp [*]; done)), (by first | rfl | (simp; done) | (simp [*]; done)), (by first | rfl | (simp; done) | (simp [*]; done)), H', ⟨Nat.le_refl _⟩, by repeat (first | exact Drawn0.refl _ | apply Drawn0.step)⟩
      case round =>
        clear H'
        try clear c2
        try clear p2
        try clear c3
        try clear c4
        try clear c4b0
        try clear c6
        try clear c6b0
        try clear c6b1
        try clear p6
        try clear c9
        try clear c9b0
        try clear c9b1
        try clear p2
        try clear p6
        obtain ⟨x7_2, x8_2, x34_2, rfl, rfl, rfl, HA, HK2, ⟨m2, rfl⟩⟩ := hrel
        cases gk with
        | zero => exact absurd HA.out (by simp [series_logarithm.l0])
        | succ k2 =>
          have H := HA.out
          clear HA
          simp only [series_logarithm.l0] at H
          by_cases c13 : x34_2 < 21
          · rw [if_pos c13] at H
            have c13b0 : decide (x34_2 < 21) = true := decide_eq_true c13
            clear c13
            by_cases c14 : (wrap64 ((wrap64 (2 * x34_2)) + 1)) = 0
            · rw [if_pos c14] at H
              exact absurd H (by simp)
            · rw [if_neg c14] at H
              have c14b0 : ((wrap64 ((wrap64 (2 * x34_2)) + 1)) == 0) = false := beq_eq_false_iff_ne.mpr c14
              have c14b1 : ((wrap64 ((wrap64 (2 * x34_2)) + 1)) != 0) = true := bne_iff_ne.mpr c14
              replace H := Option.bind_eq_some_iff.mp H
              obtain ⟨t153, A150, H⟩ := H
              replace H : (series_logarithm.l0 k2 (wrap64 (t150 - 31)) t152 (wrap64 (x7_2 + (wrap64 (Int.tdiv x8_2 (wrap64 ((wrap64 (2 * x34_2)) + 1)))))) t153 (wrap64 (x34_2 + 1))) = some r := H
              have A15 := Aside0.mk A150
              clear A150
              have H' := Aside0.mk H
              clear H
              go_wp2_with (first | ((with_reducible refine gate_callee (f := 40) rfl ?_); refine goesL_ (some 46) rfl rfl Try.func40 (by kernel_rfl) rfl #[.int .i64 x8_2, .int .i64 t152, .int .i64 72057594037927936] rfl (by (try simp only [List.map_toArray, List.map_cons, List.map_nil]); first | done | rfl | (simp only [List.length_drop, List.length_take]; rfl)) ?_; (with_reducible refine (series_muldiv.calls k2 x8_2 t152 72057594037927936 t153 _ A15.out).mono ?_); rintro e w' ⟨rfl, ⟨nd, rfl⟩⟩; refine ⟨_, rfl, ?_⟩))
              go_roundg k2
              case measure => have := HJ2.out; have := HK2.out; omega
              case rel => exact ⟨(wrap64 (x7_2 + (wrap64 (Int.tdiv x8_2 (wrap64 ((wrap64 (2 * x34_2)) + 1)))))), (t153), (wrap64 (x34_2 + 1)), (by first | rfl | (simp; done) | (simp [*]; done)), (by first | rfl | (simp; done) | (simp [*]; done)), (by first | rfl | (simp; done) | (simp [*]; done)), H', ⟨by have := HJ2.out; have := HK2.out; omega⟩, by repeat (first | exact Drawn0.refl _ | apply Drawn0.step)⟩
          · rw [if_neg c13] at H
            have c13b0 : decide (x34_2 < 21) = false := decide_eq_false c13
            clear c13
            obtain rfl := Option.some.inj H
            go_wp2
            go_ret
            exact ⟨by first | rfl | (simp; done) | (simp [*]; done), by repeat (first | exact Drawn0.refl _ | apply Drawn0.step)⟩

/-! ### series_Log: function 21 -/
def series_Log.j0 : Nat → Int → Bool → Option (Int × Int)
  | 0, _, _ => none
  | k + 1, x0, x11 => if x11 = true then (some (0, 2)) else ((series_logarithm.f k x0).bind fun t154 => ((num_Round.f k t154 67108864).bind fun bt155 => (some (bt155.1, 0))))
def series_Log.f (k : Nat) (a0 : Int) : Option (Int × Int) := if a0 < 1 then (series_Log.j0 k a0 true) else (series_Log.j0 k a0 (decide (a0 > 4611686018427387904)))
theorem series_Log.mono_l : ∀ k, (∀ y0 y1, LeO (series_Log.j0 k y0 y1) (series_Log.j0 (k + 1) y0 y1))
  | 0 => fun _ _ r h => by simp [series_Log.j0] at h
  | k + 1 => by
    have ih0 := series_Log.mono_l k
    · intro y0 y1
      unfold series_Log.j0
      repeat' first
      | (with_reducible exact ih0 _ _)
      | (with_reducible exact num_Round.mono _ _ _)
      | (with_reducible exact series_logarithm.mono _ _)
      | (with_reducible exact LeO.refl _)
      | (with_reducible exact LeO.none _)
      | (with_reducible refine LeO.ite ?_ ?_)
      | (with_reducible refine LeO.bind ?_ (fun _ => ?_))
      | exact ih0 _ _
      | exact num_Round.mono _ _ _
      | exact series_logarithm.mono _ _
      | exact LeO.none _
      | refine LeO.ite ?_ ?_
      | refine LeO.bind ?_ (fun _ => ?_)
theorem series_Log.mono : ∀ a0 k, LeO (series_Log.f k a0) (series_Log.f (k + 1) a0) := by
  intro a0 k
  have ih0 := series_Log.mono_l k
  unfold series_Log.f
  repeat' first
      | (with_reducible exact ih0 _ _)
      | (with_reducible exact num_Round.mono _ _ _)
      | (with_reducible exact series_logarithm.mono _ _)
      | (with_reducible exact LeO.refl _)
      | (with_reducible exact LeO.none _)
      | (with_reducible refine LeO.ite ?_ ?_)
      | (with_reducible refine LeO.bind ?_ (fun _ => ?_))
      | exact ih0 _ _
      | exact num_Round.mono _ _ _
      | exact series_logarithm.mono _ _
      | exact LeO.none _
      | refine LeO.ite ?_ ?_
      | refine LeO.bind ?_ (fun _ => ?_)
set_option maxHeartbeats 8000000 in
set_option maxRecDepth 100000 in
theorem series_Log.calls (k : Nat) (a0 : Int) (r1 : Int) (r2 : Int) (w : World) (h : series_Log.f k a0 = some (r1, r2)) :
    Calls Try.prog 21 #[.int .i64 a0] w fun e w' => e = .returned (.tuple #[.int .i64 r1, .int .i64 r2]) ∧ Drawn0 w w' := by
  have H : (if a0 < 1 then (series_Log.j0 k a0 true) else (series_Log.j0 k a0 (decide (a0 > 4611686018427387904)))) = some (r1, r2) := h
  clear h
  have HC2 := Aside0.mk H
  clear H
  go_enter Try.func21, Try.ntmps21
  go_upto_region 1 with (fail)
  go_cut [11] (fun v11 wc => ∃ (kq : Nat) (x11_1 : Bool), v11 = .bool x11_1 ∧ Aside0 (series_Log.j0 kq a0 x11_1 = some (r1, r2)) ∧ Aside0 (kq ≤ k) ∧ Drawn0 w wc)
  case first =>
    have H := HC2.out
    clear HC2
    by_cases c3 : a0 < 1
    · rw [if_pos c3] at H
      have c3b0 : decide (a0 < 1) = true := decide_eq_true c3
      clear c3
      (first | rw [c3b0] | (simp only [i64_w, i32_w]; rw [c3b0]) | skip)
      have H' := Aside0.mk H
      clear H
      go_wp2
      go_meet
      case rel => exact ⟨_, (true), (by first | rfl | (simp; done) | (simp [*]; done)), H', ⟨by first | omega | exact Nat.le_refl _⟩, by repeat (first | exact Drawn0.refl _ | apply Drawn0.step)⟩
    · rw [if_neg c3] at H
      have c3b0 : decide (a0 < 1) = false := decide_eq_false c3
      clear c3
      (first | rw [c3b0] | (simp only [i64_w, i32_w]; rw [c3b0]) | skip)
      have H' := Aside0.mk H
      clear H
      go_wp2
      go_meet
      case rel => exact ⟨_, (decide (a0 > 4611686018427387904)), (by first | rfl | (simp; done) | (simp [*]; done)), H', ⟨by first | omega | exact Nat.le_refl _⟩, by repeat (first | exact Drawn0.refl _ | apply Drawn0.step)⟩
  case rest =>
    clear HC2
    try clear c2
    try clear p2
    try clear c3
    try clear c3b0
    obtain ⟨kq, x11_1, rfl, HA, HJ1, ⟨mc1, rfl⟩⟩ := hcut
    cases kq with
    | zero => exact absurd HA.out (by simp [series_Log.j0])
    | succ kj1 =>
      have H := HA.out
      clear HA
      simp only [series_Log.j0] at H
      by_cases c4 : x11_1 = true
      · subst c4
        have H1 : (some (0, 2)) = some (r1, r2) := by rw [if_pos rfl] at H; exact H
        clear H
        have H := H1
        clear H1
        simp only [Option.some.injEq, Prod.mk.injEq] at H
        obtain ⟨rfl, rfl⟩ := H
        go_wp2
        go_ret2
        exact ⟨by first | rfl | (simp; done) | (simp [*]; done), by repeat (first | exact Drawn0.refl _ | apply Drawn0.step)⟩
      · replace c4 := Bool.eq_false_iff.mpr c4
        subst c4
        have H1 : ((series_logarithm.f kj1 a0).bind fun t154 => ((num_Round.f kj1 t154 67108864).bind fun bt155 => (some (bt155.1, 0)))) = some (r1, r2) := by rw [if_neg (show ¬ (false = true) by decide)] at H; exact H
        clear H
        have H := H1
        clear H1
        replace H := Option.bind_eq_some_iff.mp H
        obtain ⟨t154, A50, H⟩ := H
        replace H : ((num_Round.f kj1 t154 67108864).bind fun bt155 => (some (bt155.1, 0))) = some (r1, r2) := H
        have A5 := Aside0.mk A50
        clear A50
        replace H := Option.bind_eq_some_iff.mp H
        obtain ⟨⟨t155, t156⟩, A60, H⟩ := H
        replace H : (some (t155, 0)) = some (r1, r2) := H
        have A6 := Aside0.mk A60
        clear A60
        simp only [Option.some.injEq, Prod.mk.injEq] at H
        obtain ⟨rfl, rfl⟩ := H
        go_wp2_with (first | ((with_reducible refine gate_callee (f := 35) rfl ?_); refine goesL_ (some 14) rfl rfl Try.func35 (by kernel_rfl) rfl #[.int .i64 a0] rfl (by (try simp only [List.map_toArray, List.map_cons, List.map_nil]); first | done | rfl | (simp only [List.length_drop, List.length_take]; rfl)) ?_; (with_reducible refine (series_logarithm.calls kj1 a0 t154 _ A5.out).mono ?_); rintro e w' ⟨rfl, ⟨nd, rfl⟩⟩; refine ⟨_, rfl, ?_⟩) | ((with_reducible refine gate_callee (f := 27) rfl ?_); refine goesL_ (some 15) rfl rfl Try.func27 (by kernel_rfl) rfl #[.int .i64 t154, .int .i64 67108864] rfl (by (try simp only [List.map_toArray, List.map_cons, List.map_nil]); first | done | rfl | (simp only [List.length_drop, List.length_take]; rfl)) ?_; (with_reducible refine (num_Round.calls kj1 t154 67108864 t155 t156 _ A6.out).mono ?_); rintro e w' ⟨rfl, ⟨nd, rfl⟩⟩; refine ⟨_, rfl, ?_⟩))
        go_ret2
        exact ⟨by first | rfl | (simp; done) | (simp [*]; done), by repeat (first | exact Drawn0.refl _ | apply Drawn0.step)⟩

/-! ### series_Artanh: function 23 -/
mutual
def series_Artanh.j0 : Nat → Int → Bool → Option (Int × Int)
  | 0, _, _ => none
  | k + 1, x0, x13 => if x13 = true then (some (0, 2)) else (if x0 < 0 then ((series_Artanh.f k (wrap64 (-x0))).bind fun bt157 => (some (wrap64 (-bt157.1), bt157.2))) else ((series_logarithm.f k (wrap64 (1073741824 + x0))).bind fun t159 => ((series_logarithm.f k (wrap64 (1073741824 - x0))).bind fun t160 => ((num_Round.f k (wrap64 (t159 - t160)) 134217728).bind fun bt161 => (some (bt161.1, 0))))))
def series_Artanh.f : Nat → Int → Option (Int × Int)
  | 0, _ => none
  | k + 1, a0 => if a0 < (-1073725440) then (series_Artanh.j0 k a0 true) else (series_Artanh.j0 k a0 (decide (a0 > 1073725440)))
end
theorem series_Artanh.mono_l : ∀ k, (∀ y0, LeO (series_Artanh.f k y0) (series_Artanh.f (k + 1) y0)) ∧ (∀ y0 y1, LeO (series_Artanh.j0 k y0 y1) (series_Artanh.j0 (k + 1) y0 y1))
  | 0 => ⟨fun _ r h => by simp [series_Artanh.f] at h, fun _ _ r h => by simp [series_Artanh.j0] at h⟩
  | k + 1 => by
    obtain ⟨ih0, ih1⟩ := series_Artanh.mono_l k
    refine ⟨?_, ?_⟩
    · intro y0
      unfold series_Artanh.f
      repeat' first
      | (with_reducible exact ih0 _)
      | (with_reducible exact ih1 _ _)
      | (with_reducible exact num_Round.mono _ _ _)
      | (with_reducible exact series_logarithm.mono _ _)
      | (with_reducible exact LeO.refl _)
      | (with_reducible exact LeO.none _)
      | (with_reducible refine LeO.ite ?_ ?_)
      | (with_reducible refine LeO.bind ?_ (fun _ => ?_))
      | exact ih0 _
      | exact ih1 _ _
      | exact num_Round.mono _ _ _
      | exact series_logarithm.mono _ _
      | exact LeO.none _
      | refine LeO.ite ?_ ?_
      | refine LeO.bind ?_ (fun _ => ?_)
    · intro y0 y1
      unfold series_Artanh.j0
      repeat' first
      | (with_reducible exact ih0 _)
      | (with_reducible exact ih1 _ _)
      | (with_reducible exact num_Round.mono _ _ _)
      | (with_reducible exact series_logarithm.mono _ _)
      | (with_reducible exact LeO.refl _)
      | (with_reducible exact LeO.none _)
      | (with_reducible refine LeO.ite ?_ ?_)
      | (with_reducible refine LeO.bind ?_ (fun _ => ?_))
      | exact ih0 _
      | exact ih1 _ _
      | exact num_Round.mono _ _ _
      | exact series_logarithm.mono _ _
      | exact LeO.none _
      | refine LeO.ite ?_ ?_
      | refine LeO.bind ?_ (fun _ => ?_)
theorem series_Artanh.mono : ∀ a0 k, LeO (series_Artanh.f k a0) (series_Artanh.f (k + 1) a0) := by
  intro a0 k
  obtain ⟨ih0, ih1⟩ := series_Artanh.mono_l k
  exact ih0 a0
set_option maxHeartbeats 8000000 in
set_option maxRecDepth 100000 in
theorem series_Artanh.calls (k : Nat) : ∀ (a0 : Int) (r1 : Int) (r2 : Int) (w : World) (h : series_Artanh.f k a0 = some (r1, r2)),
    Calls Try.prog 23 #[.int .i64 a0] w fun e w' => e = .returned (.tuple #[.int .i64 r1, .int .i64 r2]) ∧ Drawn0 w w' := by
  induction k using Nat.strongRecOn with
  | _ k ih =>
  intro a0 r1 r2 w h
  cases k with
  | zero => exact absurd h (by simp [series_Artanh.f])
  | succ k =>
  simp only [series_Artanh.f] at h
  have H : (if a0 < (-1073725440) then (series_Artanh.j0 k a0 true) else (series_Artanh.j0 k a0 (decide (a0 > 1073725440)))) = some (r1, r2) := h
  clear h
  have HC2 := Aside0.mk H
  clear H
  go_enter Try.func23, Try.ntmps23
  go_upto_region 1 with (fail)
  go_cut [13] (fun v13 wc => ∃ (kq : Nat) (x13_1 : Bool), v13 = .bool x13_1 ∧ Aside0 (series_Artanh.j0 kq a0 x13_1 = some (r1, r2)) ∧ Aside0 (kq ≤ k) ∧ Drawn0 w wc)
  case first =>
    have H := HC2.out
    clear HC2
    by_cases c3 : a0 < (-1073725440)
    · rw [if_pos c3] at H
      have c3b0 : decide (a0 < (-1073725440)) = true := decide_eq_true c3
      clear c3
      (first | rw [c3b0] | (simp only [i64_w, i32_w]; rw [c3b0]) | skip)
      have H' := Aside0.mk H
      clear H
      go_wp2
      go_meet
      case rel => exact ⟨_, (true), (by first | rfl | (simp; done) | (simp [*]; done)), H', ⟨by first | omega | exact Nat.le_refl _⟩, by repeat (first | exact Drawn0.refl _ | apply Drawn0.step)⟩
    · rw [if_neg c3] at H
      have c3b0 : decide (a0 < (-1073725440)) = false := decide_eq_false c3
      clear c3
      (first | rw [c3b0] | (simp only [i64_w, i32_w]; rw [c3b0]) | skip)
      have H' := Aside0.mk H
      clear H
      go_wp2
      go_meet
      case rel => exact ⟨_, (decide (a0 > 1073725440)), (by first | rfl | (simp; done) | (simp [*]; done)), H', ⟨by first | omega | exact Nat.le_refl _⟩, by repeat (first | exact Drawn0.refl _ | apply Drawn0.step)⟩
  case rest =>
    clear HC2
    try clear c2
    try clear p2
    try clear c3
    try clear c3b0
    obtain ⟨kq, x13_1, rfl, HA, HJ1, ⟨mc1, rfl⟩⟩ := hcut
    cases kq with
    | zero => exact absurd HA.out (by simp [series_Artanh.j0])
    | succ kj1 =>
      have H := HA.out
      clear HA
      simp only [series_Artanh.j0] at H
      by_cases c4 : x13_1 = true
      · subst c4
        have H1 : (some (0, 2)) = some (r1, r2) := by rw [if_pos rfl] at H; exact H
        clear H
        have H := H1
        clear H1
        simp only [Option.some.injEq, Prod.mk.injEq] at H
        obtain ⟨rfl, rfl⟩ := H
        go_wp2
        go_ret2
        exact ⟨by first | rfl | (simp; done) | (simp [*]; done), by repeat (first | exact Drawn0.refl _ | apply Drawn0.step)⟩
      · replace c4 := Bool.eq_false_iff.mpr c4
        subst c4
        have H1 : (if a0 < 0 then ((series_Artanh.f kj1 (wrap64 (-a0))).bind fun bt157 => (some (wrap64 (-bt157.1), bt157.2))) else ((series_logarithm.f kj1 (wrap64 (1073741824 + a0))).bind fun t159 => ((series_logarithm.f kj1 (wrap64 (1073741824 - a0))).bind fun t160 => ((num_Round.f kj1 (wrap64 (t159 - t160)) 134217728).bind fun bt161 => (some (bt161.1, 0)))))) = some (r1, r2) := by rw [if_neg (show ¬ (false = true) by decide)] at H; exact H
        clear H
        have H := H1
        clear H1
        by_cases c5 : a0 < 0
        · rw [if_pos c5] at H
          have c5b0 : decide (a0 < 0) = true := decide_eq_true c5
          clear c5
          replace H := Option.bind_eq_some_iff.mp H
          obtain ⟨⟨t157, t158⟩, A60, H⟩ := H
          replace H : (some (wrap64 (-t157), t158)) = some (r1, r2) := H
          have A6 := Aside0.mk A60
          clear A60
          simp only [Option.some.injEq, Prod.mk.injEq] at H
          obtain ⟨rfl, rfl⟩ := H
          go_wp2_with (first | ((with_reducible refine gate_callee (f := 23) rfl ?_); refine goesL_ (some 19) rfl rfl Try.func23 (by kernel_rfl) rfl #[.int .i64 (wrap64 (-a0))] rfl (by (try simp only [List.map_toArray, List.map_cons, List.map_nil]); first | done | rfl | (simp only [List.length_drop, List.length_take]; rfl)) ?_; (with_reducible refine (ih kj1 (by have := HJ1.out; omega) (wrap64 (-a0)) t157 t158 _ A6.out).mono ?_); rintro e w' ⟨rfl, ⟨nd, rfl⟩⟩; refine ⟨_, rfl, ?_⟩))
          go_ret2
          exact ⟨by first | rfl | (simp; done) | (simp [*]; done), by repeat (first | exact Drawn0.refl _ | apply Drawn0.step)⟩
        · rw [if_neg c5] at H
          have c5b0 : decide (a0 < 0) = false := decide_eq_false c5
          clear c5
          replace H := Option.bind_eq_some_iff.mp H
          obtain ⟨t159, A70, H⟩ := H
          replace H : ((series_logarithm.f kj1 (wrap64 (1073741824 - a0))).bind fun t160 => ((num_Round.f kj1 (wrap64 (t159 - t160)) 134217728).bind fun bt161 => (some (bt161.1, 0)))) = some (r1, r2) := H
          have A7 := Aside0.mk A70
          clear A70
          replace H := Option.bind_eq_some_iff.mp H
          obtain ⟨t160, A80, H⟩ := H
          replace H : ((num_Round.f kj1 (wrap64 (t159 - t160)) 134217728).bind fun bt161 => (some (bt161.1, 0))) = some (r1, r2) := H
          have A8 := Aside0.mk A80
          clear A80
          replace H := Option.bind_eq_some_iff.mp H
          obtain ⟨⟨t161, t162⟩, A90, H⟩ := H
          replace H : (some (t161, 0)) = some (r1, r2) := H
          have A9 := Aside0.mk A90
          clear A90
          simp only [Option.some.injEq, Prod.mk.injEq] at H
          obtain ⟨rfl, rfl⟩ := H
          go_wp2_with (first | ((with_reducible refine gate_callee (f := 35) rfl ?_); refine goesL_ (some 28) rfl rfl Try.func35 (by kernel_rfl) rfl #[.int .i64 (wrap64 (1073741824 + a0))] rfl (by (try simp only [List.map_toArray, List.map_cons, List.map_nil]); first | done | rfl | (simp only [List.length_drop, List.length_take]; rfl)) ?_; (with_reducible refine (series_logarithm.calls kj1 (wrap64 (1073741824 + a0)) t159 _ A7.out).mono ?_); rintro e w' ⟨rfl, ⟨nd, rfl⟩⟩; refine ⟨_, rfl, ?_⟩) | ((with_reducible refine gate_callee (f := 35) rfl ?_); refine goesL_ (some 31) rfl rfl Try.func35 (by kernel_rfl) rfl #[.int .i64 (wrap64 (1073741824 - a0))] rfl (by (try simp only [List.map_toArray, List.map_cons, List.map_nil]); first | done | rfl | (simp only [List.length_drop, List.length_take]; rfl)) ?_; (with_reducible refine (series_logarithm.calls kj1 (wrap64 (1073741824 - a0)) t160 _ A8.out).mono ?_); rintro e w' ⟨rfl, ⟨nd, rfl⟩⟩; refine ⟨_, rfl, ?_⟩) | ((with_reducible refine gate_callee (f := 27) rfl ?_); refine goesL_ (some 33) rfl rfl Try.func27 (by kernel_rfl) rfl #[.int .i64 (wrap64 (t159 - t160)), .int .i64 134217728] rfl (by (try simp only [List.map_toArray, List.map_cons, List.map_nil]); first | done | rfl | (simp only [List.length_drop, List.length_take]; rfl)) ?_; (with_reducible refine (num_Round.calls kj1 (wrap64 (t159 - t160)) 134217728 t161 t162 _ A9.out).mono ?_); rintro e w' ⟨rfl, ⟨nd, rfl⟩⟩; refine ⟨_, rfl, ?_⟩))
          go_ret2
          exact ⟨by first | rfl | (simp; done) | (simp [*]; done), by repeat (first | exact Drawn0.refl _ | apply Drawn0.step)⟩

/-! ### mapsheetslaw11_awake: function 18 -/
def mapsheetslaw11_awake.f (k : Nat)  : Option (Bool) := (series_Asin.f k 1073741824).bind fun bt163 => ((series_Log.f k 2147483648).bind fun bt165 => ((series_Log.f k 1073741824).bind fun bt167 => ((series_Asin.f k 1073741825).bind fun bt169 => ((series_Log.f k 0).bind fun bt171 => ((series_Artanh.f k 1073741824).bind fun bt173 => ((series_Artanh.f k 0).bind fun bt175 => ((series_Rad.f k 1).bind fun t177 => (if t177 = 5206 then ((series_Rad.f k 648000).bind fun t178 => (if t178 = 3373259426 then ((series_Sin.f k 1).bind fun t179 => (if t179 = 5206 then ((series_Sin.f k 108000).bind fun t180 => (if t180 = 536870912 then ((series_Sin.f k 324000).bind fun t181 => (if t181 = 1073741824 then ((series_Sin.f k (-324000)).bind fun t182 => (if t182 = (-1073741824) then ((series_Cos.f k 0).bind fun t183 => (if t183 = 1073741824 then ((series_Cos.f k 324000).bind fun t184 => (if t184 = 0 then (if bt163.1 = 323994 then (if bt163.2 = 0 then (if bt165.1 = 744261118 then (if bt165.2 = 0 then (if bt167.1 = 0 then (if bt167.2 = 0 then (if bt169.2 = 2 then (if bt171.2 = 2 then (if bt173.2 = 2 then (if bt175.1 = 0 then (some (bt175.2 == 0)) else (none)) else (none)) else (none)) else (none)) else (none)) else (none)) else (none)) else (none)) else (none)) else (none)) else (none))) else (none))) else (none))) else (none))) else (none))) else (none))) else (none))) else (none)))))))))
theorem mapsheetslaw11_awake.mono : ∀ k, LeO (mapsheetslaw11_awake.f k ) (mapsheetslaw11_awake.f (k + 1) ) := by
  intro  k
  unfold mapsheetslaw11_awake.f
  repeat' first
      | (with_reducible exact series_Artanh.mono _ _)
      | (with_reducible exact series_Asin.mono _ _)
      | (with_reducible exact series_Cos.mono _ _)
      | (with_reducible exact series_Log.mono _ _)
      | (with_reducible exact series_Rad.mono _ _)
      | (with_reducible exact series_Sin.mono _ _)
      | (with_reducible exact LeO.refl _)
      | (with_reducible exact LeO.none _)
      | (with_reducible refine LeO.ite ?_ ?_)
      | (with_reducible refine LeO.bind ?_ (fun _ => ?_))
      | exact series_Artanh.mono _ _
      | exact series_Asin.mono _ _
      | exact series_Cos.mono _ _
      | exact series_Log.mono _ _
      | exact series_Rad.mono _ _
      | exact series_Sin.mono _ _
      | exact LeO.none _
      | refine LeO.ite ?_ ?_
      | refine LeO.bind ?_ (fun _ => ?_)
set_option maxHeartbeats 8000000 in
set_option maxRecDepth 100000 in
theorem mapsheetslaw11_awake.calls (k : Nat)  (r : Bool) (w : World) (h : mapsheetslaw11_awake.f k  = some r) :
    Calls Try.prog 18 #[] w fun e w' => e = .returned (.bool r) ∧ Below w.heap.size w w' := by
  have HB := Aside0.mk (Below.refl w.heap.size w)
  have H : ((series_Asin.f k 1073741824).bind fun bt163 => ((series_Log.f k 2147483648).bind fun bt165 => ((series_Log.f k 1073741824).bind fun bt167 => ((series_Asin.f k 1073741825).bind fun bt169 => ((series_Log.f k 0).bind fun bt171 => ((series_Artanh.f k 1073741824).bind fun bt173 => ((series_Artanh.f k 0).bind fun bt175 => ((series_Rad.f k 1).bind fun t177 => (if t177 = 5206 then ((series_Rad.f k 648000).bind fun t178 => (if t178 = 3373259426 then ((series_Sin.f k 1).bind fun t179 => (if t179 = 5206 then ((series_Sin.f k 108000).bind fun t180 => (if t180 = 536870912 then ((series_Sin.f k 324000).bind fun t181 => (if t181 = 1073741824 then ((series_Sin.f k (-324000)).bind fun t182 => (if t182 = (-1073741824) then ((series_Cos.f k 0).bind fun t183 => (if t183 = 1073741824 then ((series_Cos.f k 324000).bind fun t184 => (if t184 = 0 then (if bt163.1 = 323994 then (if bt163.2 = 0 then (if bt165.1 = 744261118 then (if bt165.2 = 0 then (if bt167.1 = 0 then (if bt167.2 = 0 then (if bt169.2 = 2 then (if bt171.2 = 2 then (if bt173.2 = 2 then (if bt175.1 = 0 then (some (bt175.2 == 0)) else (none)) else (none)) else (none)) else (none)) else (none)) else (none)) else (none)) else (none)) else (none)) else (none)) else (none))) else (none))) else (none))) else (none))) else (none))) else (none))) else (none))) else (none)))))))))) = some r := h
  clear h
  replace H := Option.bind_eq_some_iff.mp H
  obtain ⟨⟨t163, t164⟩, A10, H⟩ := H
  replace H : ((series_Log.f k 2147483648).bind fun bt165 => ((series_Log.f k 1073741824).bind fun bt167 => ((series_Asin.f k 1073741825).bind fun bt169 => ((series_Log.f k 0).bind fun bt171 => ((series_Artanh.f k 1073741824).bind fun bt173 => ((series_Artanh.f k 0).bind fun bt175 => ((series_Rad.f k 1).bind fun t177 => (if t177 = 5206 then ((series_Rad.f k 648000).bind fun t178 => (if t178 = 3373259426 then ((series_Sin.f k 1).bind fun t179 => (if t179 = 5206 then ((series_Sin.f k 108000).bind fun t180 => (if t180 = 536870912 then ((series_Sin.f k 324000).bind fun t181 => (if t181 = 1073741824 then ((series_Sin.f k (-324000)).bind fun t182 => (if t182 = (-1073741824) then ((series_Cos.f k 0).bind fun t183 => (if t183 = 1073741824 then ((series_Cos.f k 324000).bind fun t184 => (if t184 = 0 then (if t163 = 323994 then (if t164 = 0 then (if bt165.1 = 744261118 then (if bt165.2 = 0 then (if bt167.1 = 0 then (if bt167.2 = 0 then (if bt169.2 = 2 then (if bt171.2 = 2 then (if bt173.2 = 2 then (if bt175.1 = 0 then (some (bt175.2 == 0)) else (none)) else (none)) else (none)) else (none)) else (none)) else (none)) else (none)) else (none)) else (none)) else (none)) else (none))) else (none))) else (none))) else (none))) else (none))) else (none))) else (none))) else (none))))))))) = some r := H
  have A1 := Aside0.mk A10
  clear A10
  replace H := Option.bind_eq_some_iff.mp H
  obtain ⟨⟨t165, t166⟩, A20, H⟩ := H
  replace H : ((series_Log.f k 1073741824).bind fun bt167 => ((series_Asin.f k 1073741825).bind fun bt169 => ((series_Log.f k 0).bind fun bt171 => ((series_Artanh.f k 1073741824).bind fun bt173 => ((series_Artanh.f k 0).bind fun bt175 => ((series_Rad.f k 1).bind fun t177 => (if t177 = 5206 then ((series_Rad.f k 648000).bind fun t178 => (if t178 = 3373259426 then ((series_Sin.f k 1).bind fun t179 => (if t179 = 5206 then ((series_Sin.f k 108000).bind fun t180 => (if t180 = 536870912 then ((series_Sin.f k 324000).bind fun t181 => (if t181 = 1073741824 then ((series_Sin.f k (-324000)).bind fun t182 => (if t182 = (-1073741824) then ((series_Cos.f k 0).bind fun t183 => (if t183 = 1073741824 then ((series_Cos.f k 324000).bind fun t184 => (if t184 = 0 then (if t163 = 323994 then (if t164 = 0 then (if t165 = 744261118 then (if t166 = 0 then (if bt167.1 = 0 then (if bt167.2 = 0 then (if bt169.2 = 2 then (if bt171.2 = 2 then (if bt173.2 = 2 then (if bt175.1 = 0 then (some (bt175.2 == 0)) else (none)) else (none)) else (none)) else (none)) else (none)) else (none)) else (none)) else (none)) else (none)) else (none)) else (none))) else (none))) else (none))) else (none))) else (none))) else (none))) else (none))) else (none)))))))) = some r := H
  have A2 := Aside0.mk A20
  clear A20
  replace H := Option.bind_eq_some_iff.mp H
  obtain ⟨⟨t167, t168⟩, A30, H⟩ := H
  replace H : ((series_Asin.f k 1073741825).bind fun bt169 => ((series_Log.f k 0).bind fun bt171 => ((series_Artanh.f k 1073741824).bind fun bt173 => ((series_Artanh.f k 0).bind fun bt175 => ((series_Rad.f k 1).bind fun t177 => (if t177 = 5206 then ((series_Rad.f k 648000).bind fun t178 => (if t178 = 3373259426 then ((series_Sin.f k 1).bind fun t179 => (if t179 = 5206 then ((series_Sin.f k 108000).bind fun t180 => (if t180 = 536870912 then ((series_Sin.f k 324000).bind fun t181 => (if t181 = 1073741824 then ((series_Sin.f k (-324000)).bind fun t182 => (if t182 = (-1073741824) then ((series_Cos.f k 0).bind fun t183 => (if t183 = 1073741824 then ((series_Cos.f k 324000).bind fun t184 => (if t184 = 0 then (if t163 = 323994 then (if t164 = 0 then (if t165 = 744261118 then (if t166 = 0 then (if t167 = 0 then (if t168 = 0 then (if bt169.2 = 2 then (if bt171.2 = 2 then (if bt173.2 = 2 then (if bt175.1 = 0 then (some (bt175.2 == 0)) else (none)) else (none)) else (none)) else (none)) else (none)) else (none)) else (none)) else (none)) else (none)) else (none)) else (none))) else (none))) else (none))) else (none))) else (none))) else (none))) else (none))) else (none))))))) = some r := H
  have A3 := Aside0.mk A30
  clear A30
  replace H := Option.bind_eq_some_iff.mp H
  obtain ⟨⟨t169, t170⟩, A40, H⟩ := H
  replace H : ((series_Log.f k 0).bind fun bt171 => ((series_Artanh.f k 1073741824).bind fun bt173 => ((series_Artanh.f k 0).bind fun bt175 => ((series_Rad.f k 1).bind fun t177 => (if t177 = 5206 then ((series_Rad.f k 648000).bind fun t178 => (if t178 = 3373259426 then ((series_Sin.f k 1).bind fun t179 => (if t179 = 5206 then ((series_Sin.f k 108000).bind fun t180 => (if t180 = 536870912 then ((series_Sin.f k 324000).bind fun t181 => (if t181 = 1073741824 then ((series_Sin.f k (-324000)).bind fun t182 => (if t182 = (-1073741824) then ((series_Cos.f k 0).bind fun t183 => (if t183 = 1073741824 then ((series_Cos.f k 324000).bind fun t184 => (if t184 = 0 then (if t163 = 323994 then (if t164 = 0 then (if t165 = 744261118 then (if t166 = 0 then (if t167 = 0 then (if t168 = 0 then (if t170 = 2 then (if bt171.2 = 2 then (if bt173.2 = 2 then (if bt175.1 = 0 then (some (bt175.2 == 0)) else (none)) else (none)) else (none)) else (none)) else (none)) else (none)) else (none)) else (none)) else (none)) else (none)) else (none))) else (none))) else (none))) else (none))) else (none))) else (none))) else (none))) else (none)))))) = some r := H
  have A4 := Aside0.mk A40
  clear A40
  replace H := Option.bind_eq_some_iff.mp H
  obtain ⟨⟨t171, t172⟩, A50, H⟩ := H
  replace H : ((series_Artanh.f k 1073741824).bind fun bt173 => ((series_Artanh.f k 0).bind fun bt175 => ((series_Rad.f k 1).bind fun t177 => (if t177 = 5206 then ((series_Rad.f k 648000).bind fun t178 => (if t178 = 3373259426 then ((series_Sin.f k 1).bind fun t179 => (if t179 = 5206 then ((series_Sin.f k 108000).bind fun t180 => (if t180 = 536870912 then ((series_Sin.f k 324000).bind fun t181 => (if t181 = 1073741824 then ((series_Sin.f k (-324000)).bind fun t182 => (if t182 = (-1073741824) then ((series_Cos.f k 0).bind fun t183 => (if t183 = 1073741824 then ((series_Cos.f k 324000).bind fun t184 => (if t184 = 0 then (if t163 = 323994 then (if t164 = 0 then (if t165 = 744261118 then (if t166 = 0 then (if t167 = 0 then (if t168 = 0 then (if t170 = 2 then (if t172 = 2 then (if bt173.2 = 2 then (if bt175.1 = 0 then (some (bt175.2 == 0)) else (none)) else (none)) else (none)) else (none)) else (none)) else (none)) else (none)) else (none)) else (none)) else (none)) else (none))) else (none))) else (none))) else (none))) else (none))) else (none))) else (none))) else (none))))) = some r := H
  have A5 := Aside0.mk A50
  clear A50
  replace H := Option.bind_eq_some_iff.mp H
  obtain ⟨⟨t173, t174⟩, A60, H⟩ := H
  replace H : ((series_Artanh.f k 0).bind fun bt175 => ((series_Rad.f k 1).bind fun t177 => (if t177 = 5206 then ((series_Rad.f k 648000).bind fun t178 => (if t178 = 3373259426 then ((series_Sin.f k 1).bind fun t179 => (if t179 = 5206 then ((series_Sin.f k 108000).bind fun t180 => (if t180 = 536870912 then ((series_Sin.f k 324000).bind fun t181 => (if t181 = 1073741824 then ((series_Sin.f k (-324000)).bind fun t182 => (if t182 = (-1073741824) then ((series_Cos.f k 0).bind fun t183 => (if t183 = 1073741824 then ((series_Cos.f k 324000).bind fun t184 => (if t184 = 0 then (if t163 = 323994 then (if t164 = 0 then (if t165 = 744261118 then (if t166 = 0 then (if t167 = 0 then (if t168 = 0 then (if t170 = 2 then (if t172 = 2 then (if t174 = 2 then (if bt175.1 = 0 then (some (bt175.2 == 0)) else (none)) else (none)) else (none)) else (none)) else (none)) else (none)) else (none)) else (none)) else (none)) else (none)) else (none))) else (none))) else (none))) else (none))) else (none))) else (none))) else (none))) else (none)))) = some r := H
  have A6 := Aside0.mk A60
  clear A60
  replace H := Option.bind_eq_some_iff.mp H
  obtain ⟨⟨t175, t176⟩, A70, H⟩ := H
  replace H : ((series_Rad.f k 1).bind fun t177 => (if t177 = 5206 then ((series_Rad.f k 648000).bind fun t178 => (if t178 = 3373259426 then ((series_Sin.f k 1).bind fun t179 => (if t179 = 5206 then ((series_Sin.f k 108000).bind fun t180 => (if t180 = 536870912 then ((series_Sin.f k 324000).bind fun t181 => (if t181 = 1073741824 then ((series_Sin.f k (-324000)).bind fun t182 => (if t182 = (-1073741824) then ((series_Cos.f k 0).bind fun t183 => (if t183 = 1073741824 then ((series_Cos.f k 324000).bind fun t184 => (if t184 = 0 then (if t163 = 323994 then (if t164 = 0 then (if t165 = 744261118 then (if t166 = 0 then (if t167 = 0 then (if t168 = 0 then (if t170 = 2 then (if t172 = 2 then (if t174 = 2 then (if t175 = 0 then (some (t176 == 0)) else (none)) else (none)) else (none)) else (none)) else (none)) else (none)) else (none)) else (none)) else (none)) else (none)) else (none))) else (none))) else (none))) else (none))) else (none))) else (none))) else (none))) else (none))) = some r := H
  have A7 := Aside0.mk A70
  clear A70
  replace H := Option.bind_eq_some_iff.mp H
  obtain ⟨t177, A80, H⟩ := H
  replace H : (if t177 = 5206 then ((series_Rad.f k 648000).bind fun t178 => (if t178 = 3373259426 then ((series_Sin.f k 1).bind fun t179 => (if t179 = 5206 then ((series_Sin.f k 108000).bind fun t180 => (if t180 = 536870912 then ((series_Sin.f k 324000).bind fun t181 => (if t181 = 1073741824 then ((series_Sin.f k (-324000)).bind fun t182 => (if t182 = (-1073741824) then ((series_Cos.f k 0).bind fun t183 => (if t183 = 1073741824 then ((series_Cos.f k 324000).bind fun t184 => (if t184 = 0 then (if t163 = 323994 then (if t164 = 0 then (if t165 = 744261118 then (if t166 = 0 then (if t167 = 0 then (if t168 = 0 then (if t170 = 2 then (if t172 = 2 then (if t174 = 2 then (if t175 = 0 then (some (t176 == 0)) else (none)) else (none)) else (none)) else (none)) else (none)) else (none)) else (none)) else (none)) else (none)) else (none)) else (none))) else (none))) else (none))) else (none))) else (none))) else (none))) else (none))) else (none)) = some r := H
  have A8 := Aside0.mk A80
  clear A80
  by_cases c9 : t177 = 5206
  · rw [if_pos c9] at H
    have c9b0 : (t177 == 5206) = true := beq_iff_eq.mpr c9
    have c9b1 : (t177 != 5206) = false := bne_eq_false_iff_eq.mpr c9
    clear c9
    replace H := Option.bind_eq_some_iff.mp H
    obtain ⟨t178, A100, H⟩ := H
    replace H : (if t178 = 3373259426 then ((series_Sin.f k 1).bind fun t179 => (if t179 = 5206 then ((series_Sin.f k 108000).bind fun t180 => (if t180 = 536870912 then ((series_Sin.f k 324000).bind fun t181 => (if t181 = 1073741824 then ((series_Sin.f k (-324000)).bind fun t182 => (if t182 = (-1073741824) then ((series_Cos.f k 0).bind fun t183 => (if t183 = 1073741824 then ((series_Cos.f k 324000).bind fun t184 => (if t184 = 0 then (if t163 = 323994 then (if t164 = 0 then (if t165 = 744261118 then (if t166 = 0 then (if t167 = 0 then (if t168 = 0 then (if t170 = 2 then (if t172 = 2 then (if t174 = 2 then (if t175 = 0 then (some (t176 == 0)) else (none)) else (none)) else (none)) else (none)) else (none)) else (none)) else (none)) else (none)) else (none)) else (none)) else (none))) else (none))) else (none))) else (none))) else (none))) else (none))) else (none)) = some r := H
    have A10 := Aside0.mk A100
    clear A100
    by_cases c11 : t178 = 3373259426
    · rw [if_pos c11] at H
      have c11b0 : (t178 == 3373259426) = true := beq_iff_eq.mpr c11
      have c11b1 : (t178 != 3373259426) = false := bne_eq_false_iff_eq.mpr c11
      clear c11
      replace H := Option.bind_eq_some_iff.mp H
      obtain ⟨t179, A120, H⟩ := H
      replace H : (if t179 = 5206 then ((series_Sin.f k 108000).bind fun t180 => (if t180 = 536870912 then ((series_Sin.f k 324000).bind fun t181 => (if t181 = 1073741824 then ((series_Sin.f k (-324000)).bind fun t182 => (if t182 = (-1073741824) then ((series_Cos.f k 0).bind fun t183 => (if t183 = 1073741824 then ((series_Cos.f k 324000).bind fun t184 => (if t184 = 0 then (if t163 = 323994 then (if t164 = 0 then (if t165 = 744261118 then (if t166 = 0 then (if t167 = 0 then (if t168 = 0 then (if t170 = 2 then (if t172 = 2 then (if t174 = 2 then (if t175 = 0 then (some (t176 == 0)) else (none)) else (none)) else (none)) else (none)) else (none)) else (none)) else (none)) else (none)) else (none)) else (none)) else (none))) else (none))) else (none))) else (none))) else (none))) else (none)) = some r := H
      have A12 := Aside0.mk A120
      clear A120
      by_cases c13 : t179 = 5206
      · rw [if_pos c13] at H
        have c13b0 : (t179 == 5206) = true := beq_iff_eq.mpr c13
        have c13b1 : (t179 != 5206) = false := bne_eq_false_iff_eq.mpr c13
        clear c13
        replace H := Option.bind_eq_some_iff.mp H
        obtain ⟨t180, A140, H⟩ := H
        replace H : (if t180 = 536870912 then ((series_Sin.f k 324000).bind fun t181 => (if t181 = 1073741824 then ((series_Sin.f k (-324000)).bind fun t182 => (if t182 = (-1073741824) then ((series_Cos.f k 0).bind fun t183 => (if t183 = 1073741824 then ((series_Cos.f k 324000).bind fun t184 => (if t184 = 0 then (if t163 = 323994 then (if t164 = 0 then (if t165 = 744261118 then (if t166 = 0 then (if t167 = 0 then (if t168 = 0 then (if t170 = 2 then (if t172 = 2 then (if t174 = 2 then (if t175 = 0 then (some (t176 == 0)) else (none)) else (none)) else (none)) else (none)) else (none)) else (none)) else (none)) else (none)) else (none)) else (none)) else (none))) else (none))) else (none))) else (none))) else (none)) = some r := H
        have A14 := Aside0.mk A140
        clear A140
        by_cases c15 : t180 = 536870912
        · rw [if_pos c15] at H
          have c15b0 : (t180 == 536870912) = true := beq_iff_eq.mpr c15
          have c15b1 : (t180 != 536870912) = false := bne_eq_false_iff_eq.mpr c15
          clear c15
          replace H := Option.bind_eq_some_iff.mp H
          obtain ⟨t181, A160, H⟩ := H
          replace H : (if t181 = 1073741824 then ((series_Sin.f k (-324000)).bind fun t182 => (if t182 = (-1073741824) then ((series_Cos.f k 0).bind fun t183 => (if t183 = 1073741824 then ((series_Cos.f k 324000).bind fun t184 => (if t184 = 0 then (if t163 = 323994 then (if t164 = 0 then (if t165 = 744261118 then (if t166 = 0 then (if t167 = 0 then (if t168 = 0 then (if t170 = 2 then (if t172 = 2 then (if t174 = 2 then (if t175 = 0 then (some (t176 == 0)) else (none)) else (none)) else (none)) else (none)) else (none)) else (none)) else (none)) else (none)) else (none)) else (none)) else (none))) else (none))) else (none))) else (none)) = some r := H
          have A16 := Aside0.mk A160
          clear A160
          by_cases c17 : t181 = 1073741824
          · rw [if_pos c17] at H
            have c17b0 : (t181 == 1073741824) = true := beq_iff_eq.mpr c17
            have c17b1 : (t181 != 1073741824) = false := bne_eq_false_iff_eq.mpr c17
            clear c17
            replace H := Option.bind_eq_some_iff.mp H
            obtain ⟨t182, A180, H⟩ := H
            replace H : (if t182 = (-1073741824) then ((series_Cos.f k 0).bind fun t183 => (if t183 = 1073741824 then ((series_Cos.f k 324000).bind fun t184 => (if t184 = 0 then (if t163 = 323994 then (if t164 = 0 then (if t165 = 744261118 then (if t166 = 0 then (if t167 = 0 then (if t168 = 0 then (if t170 = 2 then (if t172 = 2 then (if t174 = 2 then (if t175 = 0 then (some (t176 == 0)) else (none)) else (none)) else (none)) else (none)) else (none)) else (none)) else (none)) else (none)) else (none)) else (none)) else (none))) else (none))) else (none)) = some r := H
            have A18 := Aside0.mk A180
            clear A180
            by_cases c19 : t182 = (-1073741824)
            · rw [if_pos c19] at H
              have c19b0 : (t182 == (-1073741824)) = true := beq_iff_eq.mpr c19
              have c19b1 : (t182 != (-1073741824)) = false := bne_eq_false_iff_eq.mpr c19
              clear c19
              replace H := Option.bind_eq_some_iff.mp H
              obtain ⟨t183, A200, H⟩ := H
              replace H : (if t183 = 1073741824 then ((series_Cos.f k 324000).bind fun t184 => (if t184 = 0 then (if t163 = 323994 then (if t164 = 0 then (if t165 = 744261118 then (if t166 = 0 then (if t167 = 0 then (if t168 = 0 then (if t170 = 2 then (if t172 = 2 then (if t174 = 2 then (if t175 = 0 then (some (t176 == 0)) else (none)) else (none)) else (none)) else (none)) else (none)) else (none)) else (none)) else (none)) else (none)) else (none)) else (none))) else (none)) = some r := H
              have A20 := Aside0.mk A200
              clear A200
              by_cases c21 : t183 = 1073741824
              · rw [if_pos c21] at H
                have c21b0 : (t183 == 1073741824) = true := beq_iff_eq.mpr c21
                have c21b1 : (t183 != 1073741824) = false := bne_eq_false_iff_eq.mpr c21
                clear c21
                replace H := Option.bind_eq_some_iff.mp H
                obtain ⟨t184, A220, H⟩ := H
                replace H : (if t184 = 0 then (if t163 = 323994 then (if t164 = 0 then (if t165 = 744261118 then (if t166 = 0 then (if t167 = 0 then (if t168 = 0 then (if t170 = 2 then (if t172 = 2 then (if t174 = 2 then (if t175 = 0 then (some (t176 == 0)) else (none)) else (none)) else (none)) else (none)) else (none)) else (none)) else (none)) else (none)) else (none)) else (none)) else (none)) = some r := H
                have A22 := Aside0.mk A220
                clear A220
                by_cases c23 : t184 = 0
                · rw [if_pos c23] at H
                  have c23b0 : (t184 == 0) = true := beq_iff_eq.mpr c23
                  have c23b1 : (t184 != 0) = false := bne_eq_false_iff_eq.mpr c23
                  clear c23
                  by_cases c24 : t163 = 323994
                  · rw [if_pos c24] at H
                    have c24b0 : (t163 == 323994) = true := beq_iff_eq.mpr c24
                    have c24b1 : (t163 != 323994) = false := bne_eq_false_iff_eq.mpr c24
                    clear c24
                    by_cases c25 : t164 = 0
                    · rw [if_pos c25] at H
                      have c25b0 : (t164 == 0) = true := beq_iff_eq.mpr c25
                      have c25b1 : (t164 != 0) = false := bne_eq_false_iff_eq.mpr c25
                      clear c25
                      by_cases c26 : t165 = 744261118
                      · rw [if_pos c26] at H
                        have c26b0 : (t165 == 744261118) = true := beq_iff_eq.mpr c26
                        have c26b1 : (t165 != 744261118) = false := bne_eq_false_iff_eq.mpr c26
                        clear c26
                        by_cases c27 : t166 = 0
                        · rw [if_pos c27] at H
                          have c27b0 : (t166 == 0) = true := beq_iff_eq.mpr c27
                          have c27b1 : (t166 != 0) = false := bne_eq_false_iff_eq.mpr c27
                          clear c27
                          by_cases c28 : t167 = 0
                          · rw [if_pos c28] at H
                            have c28b0 : (t167 == 0) = true := beq_iff_eq.mpr c28
                            have c28b1 : (t167 != 0) = false := bne_eq_false_iff_eq.mpr c28
                            clear c28
                            by_cases c29 : t168 = 0
                            · rw [if_pos c29] at H
                              have c29b0 : (t168 == 0) = true := beq_iff_eq.mpr c29
                              have c29b1 : (t168 != 0) = false := bne_eq_false_iff_eq.mpr c29
                              clear c29
                              by_cases c30 : t170 = 2
                              · rw [if_pos c30] at H
                                have c30b0 : (t170 == 2) = true := beq_iff_eq.mpr c30
                                have c30b1 : (t170 != 2) = false := bne_eq_false_iff_eq.mpr c30
                                clear c30
                                by_cases c31 : t172 = 2
                                · rw [if_pos c31] at H
                                  have c31b0 : (t172 == 2) = true := beq_iff_eq.mpr c31
                                  have c31b1 : (t172 != 2) = false := bne_eq_false_iff_eq.mpr c31
                                  clear c31
                                  by_cases c32 : t174 = 2
                                  · rw [if_pos c32] at H
                                    have c32b0 : (t174 == 2) = true := beq_iff_eq.mpr c32
                                    have c32b1 : (t174 != 2) = false := bne_eq_false_iff_eq.mpr c32
                                    clear c32
                                    by_cases c33 : t175 = 0
                                    · rw [if_pos c33] at H
                                      have c33b0 : (t175 == 0) = true := beq_iff_eq.mpr c33
                                      have c33b1 : (t175 != 0) = false := bne_eq_false_iff_eq.mpr c33
                                      clear c33
                                      obtain rfl := Option.some.inj H
                                      go_enter Try.func18, Try.ntmps18
                                      go_wp2_with (first | ((with_reducible refine gate_callee (f := 19) rfl ?_); refine goesL_ (some 16) rfl rfl Try.func19 (by kernel_rfl) rfl #[.int .i64 1073741824] rfl (by (try simp only [List.map_toArray, List.map_cons, List.map_nil]); first | done | rfl | (simp only [List.length_drop, List.length_take]; rfl)) ?_; (with_reducible refine (series_Asin.calls k 1073741824 t163 t164 _ A1.out).mono ?_); rintro e w34 ⟨rfl, hb⟩; refine ⟨_, rfl, ?_⟩; have n0_ := Aside0.mk (below_step (by repeat (first | (with_reducible first | exact HB.out | apply below_alloc | apply pw_below_drewN | apply below_drew1) | exact HB.out)) hb); clear HB; have HB := n0_; clear n0_; (try clear hb); (try clear hb2); (try clear hk); (try clear hi)) | ((with_reducible refine gate_callee (f := 21) rfl ?_); refine goesL_ (some 20) rfl rfl Try.func21 (by kernel_rfl) rfl #[.int .i64 2147483648] rfl (by (try simp only [List.map_toArray, List.map_cons, List.map_nil]); first | done | rfl | (simp only [List.length_drop, List.length_take]; rfl)) ?_; (with_reducible refine (series_Log.calls k 2147483648 t165 t166 _ A2.out).mono ?_); rintro e w' ⟨rfl, ⟨nd, rfl⟩⟩; refine ⟨_, rfl, ?_⟩) | ((with_reducible refine gate_callee (f := 21) rfl ?_); refine goesL_ (some 24) rfl rfl Try.func21 (by kernel_rfl) rfl #[.int .i64 1073741824] rfl (by (try simp only [List.map_toArray, List.map_cons, List.map_nil]); first | done | rfl | (simp only [List.length_drop, List.length_take]; rfl)) ?_; (with_reducible refine (series_Log.calls k 1073741824 t167 t168 _ A3.out).mono ?_); rintro e w' ⟨rfl, ⟨nd, rfl⟩⟩; refine ⟨_, rfl, ?_⟩) | ((with_reducible refine gate_callee (f := 19) rfl ?_); refine goesL_ (some 28) rfl rfl Try.func19 (by kernel_rfl) rfl #[.int .i64 1073741825] rfl (by (try simp only [List.map_toArray, List.map_cons, List.map_nil]); first | done | rfl | (simp only [List.length_drop, List.length_take]; rfl)) ?_; (with_reducible refine (series_Asin.calls k 1073741825 t169 t170 _ A4.out).mono ?_); rintro e w35 ⟨rfl, hb⟩; refine ⟨_, rfl, ?_⟩; have n0_ := Aside0.mk (below_step (by repeat (first | (with_reducible first | exact HB.out | apply below_alloc | apply pw_below_drewN | apply below_drew1) | exact HB.out)) hb); clear HB; have HB := n0_; clear n0_; (try clear hb); (try clear hb2); (try clear hk); (try clear hi)) | ((with_reducible refine gate_callee (f := 21) rfl ?_); refine goesL_ (some 32) rfl rfl Try.func21 (by kernel_rfl) rfl #[.int .i64 0] rfl (by (try simp only [List.map_toArray, List.map_cons, List.map_nil]); first | done | rfl | (simp only [List.length_drop, List.length_take]; rfl)) ?_; (with_reducible refine (series_Log.calls k 0 t171 t172 _ A5.out).mono ?_); rintro e w' ⟨rfl, ⟨nd, rfl⟩⟩; refine ⟨_, rfl, ?_⟩) | ((with_reducible refine gate_callee (f := 23) rfl ?_); refine goesL_ (some 36) rfl rfl Try.func23 (by kernel_rfl) rfl #[.int .i64 1073741824] rfl (by (try simp only [List.map_toArray, List.map_cons, List.map_nil]); first | done | rfl | (simp only [List.length_drop, List.length_take]; rfl)) ?_; (with_reducible refine (series_Artanh.calls k 1073741824 t173 t174 _ A6.out).mono ?_); rintro e w' ⟨rfl, ⟨nd, rfl⟩⟩; refine ⟨_, rfl, ?_⟩) | ((with_reducible refine gate_callee (f := 23) rfl ?_); refine goesL_ (some 40) rfl rfl Try.func23 (by kernel_rfl) rfl #[.int .i64 0] rfl (by (try simp only [List.map_toArray, List.map_cons, List.map_nil]); first | done | rfl | (simp only [List.length_drop, List.length_take]; rfl)) ?_; (with_reducible refine (series_Artanh.calls k 0 t175 t176 _ A7.out).mono ?_); rintro e w' ⟨rfl, ⟨nd, rfl⟩⟩; refine ⟨_, rfl, ?_⟩) | (go_at_call 12; (with_reducible refine (series_Rad.calls k 1 t177 _ A8.out).mono ?_); rintro e w' ⟨rfl, ⟨nd, rfl⟩⟩) | (go_at_call 12; (with_reducible refine (series_Rad.calls k 648000 t178 _ A10.out).mono ?_); rintro e w' ⟨rfl, ⟨nd, rfl⟩⟩) | (go_at_call 14; (with_reducible refine (series_Sin.calls k 1 t179 _ A12.out).mono ?_); rintro e w36 ⟨rfl, hb⟩; have n0_ := Aside0.mk (below_step (by repeat (first | (with_reducible first | exact HB.out | apply below_alloc | apply pw_below_drewN | apply below_drew1) | exact HB.out)) hb); clear HB; have HB := n0_; clear n0_; (try clear hb); (try clear hb2); (try clear hk); (try clear hi)) | (go_at_call 14; (with_reducible refine (series_Sin.calls k 108000 t180 _ A14.out).mono ?_); rintro e w37 ⟨rfl, hb⟩; have n0_ := Aside0.mk (below_step (by repeat (first | (with_reducible first | exact HB.out | apply below_alloc | apply pw_below_drewN | apply below_drew1) | exact HB.out)) hb); clear HB; have HB := n0_; clear n0_; (try clear hb); (try clear hb2); (try clear hk); (try clear hi)) | (go_at_call 14; (with_reducible refine (series_Sin.calls k 324000 t181 _ A16.out).mono ?_); rintro e w38 ⟨rfl, hb⟩; have n0_ := Aside0.mk (below_step (by repeat (first | (with_reducible first | exact HB.out | apply below_alloc | apply pw_below_drewN | apply below_drew1) | exact HB.out)) hb); clear HB; have HB := n0_; clear n0_; (try clear hb); (try clear hb2); (try clear hk); (try clear hi)) | (go_at_call 14; (with_reducible refine (series_Sin.calls k (-324000) t182 _ A18.out).mono ?_); rintro e w39 ⟨rfl, hb⟩; have n0_ := Aside0.mk (below_step (by repeat (first | (with_reducible first | exact HB.out | apply below_alloc | apply pw_below_drewN | apply below_drew1) | exact HB.out)) hb); clear HB; have HB := n0_; clear n0_; (try clear hb); (try clear hb2); (try clear hk); (try clear hi)) | (go_at_call 16; (with_reducible refine (series_Cos.calls k 0 t183 _ A20.out).mono ?_); rintro e w40 ⟨rfl, hb⟩; have n0_ := Aside0.mk (below_step (by repeat (first | (with_reducible first | exact HB.out | apply below_alloc | apply pw_below_drewN | apply below_drew1) | exact HB.out)) hb); clear HB; have HB := n0_; clear n0_; (try clear hb); (try clear hb2); (try clear hk); (try clear hi)) | (go_at_call 16; (with_reducible refine (series_Cos.calls k 324000 t184 _ A22.out).mono ?_); rintro e w41 ⟨rfl, hb⟩; have n0_ := Aside0.mk (below_step (by repeat (first | (with_reducible first | exact HB.out | apply below_alloc | apply pw_below_drewN | apply below_drew1) | exact HB.out)) hb); clear HB; have HB := n0_; clear n0_; (try clear hb); (try clear hb2); (try clear hk); (try clear hi)))
                                      go_ret
                                      exact ⟨by first | rfl | (simp [errW_none, errW_some] <;> rfl) | (simp [*, errW_none, errW_some] <;> rfl), by repeat (first | (with_reducible first | exact HB.out | apply below_alloc | apply pw_below_drewN | apply below_drew1) | exact HB.out)⟩
                                    · rw [if_neg c33] at H
                                      exact absurd H (by simp)
                                  · rw [if_neg c32] at H
                                    exact absurd H (by simp)
                                · rw [if_neg c31] at H
                                  exact absurd H (by simp)
                              · rw [if_neg c30] at H
                                exact absurd H (by simp)
                            · rw [if_neg c29] at H
                              exact absurd H (by simp)
                          · rw [if_neg c28] at H
                            exact absurd H (by simp)
                        · rw [if_neg c27] at H
                          exact absurd H (by simp)
                      · rw [if_neg c26] at H
                        exact absurd H (by simp)
                    · rw [if_neg c25] at H
                      exact absurd H (by simp)
                  · rw [if_neg c24] at H
                    exact absurd H (by simp)
                · rw [if_neg c23] at H
                  exact absurd H (by simp)
              · rw [if_neg c21] at H
                exact absurd H (by simp)
            · rw [if_neg c19] at H
              exact absurd H (by simp)
          · rw [if_neg c17] at H
            exact absurd H (by simp)
        · rw [if_neg c15] at H
          exact absurd H (by simp)
      · rw [if_neg c13] at H
        exact absurd H (by simp)
    · rw [if_neg c11] at H
      exact absurd H (by simp)
  · rw [if_neg c9] at H
    exact absurd H (by simp)

/-! ### mapsheetslaw11_SeriesSines: function 3 -/
def mapsheetslaw11_SeriesSines.f (k : Nat) (a0 : Int) : Option (Bool) := (series_Rad.f k a0).bind fun t185 => ((mapsheetsref11_Rad.f a0).bind fun t186 => (if t185 = t186 then ((series_Sin.f k a0).bind fun t187 => ((mapsheetsref11_Sin.f k a0).bind fun t188 => (if t187 = t188 then ((series_Cos.f k a0).bind fun t189 => ((mapsheetsref11_Cos.f k a0).bind fun t190 => (if t189 = t190 then ((mapsheetslaw11_awake.f k).bind fun t191 => (some t191)) else (none)))) else (none)))) else (none)))
theorem mapsheetslaw11_SeriesSines.mono : ∀ a0 k, LeO (mapsheetslaw11_SeriesSines.f k a0) (mapsheetslaw11_SeriesSines.f (k + 1) a0) := by
  intro a0 k
  unfold mapsheetslaw11_SeriesSines.f
  repeat' first
      | (with_reducible exact mapsheetslaw11_awake.mono _)
      | (with_reducible exact mapsheetsref11_Cos.mono _ _)
      | (with_reducible exact mapsheetsref11_Sin.mono _ _)
      | (with_reducible exact series_Cos.mono _ _)
      | (with_reducible exact series_Rad.mono _ _)
      | (with_reducible exact series_Sin.mono _ _)
      | (with_reducible exact LeO.refl _)
      | (with_reducible exact LeO.none _)
      | (with_reducible refine LeO.ite ?_ ?_)
      | (with_reducible refine LeO.bind ?_ (fun _ => ?_))
      | exact mapsheetslaw11_awake.mono _
      | exact mapsheetsref11_Cos.mono _ _
      | exact mapsheetsref11_Sin.mono _ _
      | exact series_Cos.mono _ _
      | exact series_Rad.mono _ _
      | exact series_Sin.mono _ _
      | exact LeO.none _
      | refine LeO.ite ?_ ?_
      | refine LeO.bind ?_ (fun _ => ?_)
set_option maxHeartbeats 8000000 in
set_option maxRecDepth 100000 in
theorem mapsheetslaw11_SeriesSines.calls (k : Nat) (a0 : Int) (r : Bool) (w : World) (h : mapsheetslaw11_SeriesSines.f k a0 = some r) :
    Calls Try.prog 3 #[.int .i64 a0] w fun e w' => e = .returned (.bool r) ∧ Below w.heap.size w w' := by
  have HB := Aside0.mk (Below.refl w.heap.size w)
  have H : ((series_Rad.f k a0).bind fun t185 => ((mapsheetsref11_Rad.f a0).bind fun t186 => (if t185 = t186 then ((series_Sin.f k a0).bind fun t187 => ((mapsheetsref11_Sin.f k a0).bind fun t188 => (if t187 = t188 then ((series_Cos.f k a0).bind fun t189 => ((mapsheetsref11_Cos.f k a0).bind fun t190 => (if t189 = t190 then ((mapsheetslaw11_awake.f k).bind fun t191 => (some t191)) else (none)))) else (none)))) else (none)))) = some r := h
  clear h
  replace H := Option.bind_eq_some_iff.mp H
  obtain ⟨t185, A20, H⟩ := H
  replace H : ((mapsheetsref11_Rad.f a0).bind fun t186 => (if t185 = t186 then ((series_Sin.f k a0).bind fun t187 => ((mapsheetsref11_Sin.f k a0).bind fun t188 => (if t187 = t188 then ((series_Cos.f k a0).bind fun t189 => ((mapsheetsref11_Cos.f k a0).bind fun t190 => (if t189 = t190 then ((mapsheetslaw11_awake.f k).bind fun t191 => (some t191)) else (none)))) else (none)))) else (none))) = some r := H
  have A2 := Aside0.mk A20
  clear A20
  replace H := Option.bind_eq_some_iff.mp H
  obtain ⟨t186, A30, H⟩ := H
  replace H : (if t185 = t186 then ((series_Sin.f k a0).bind fun t187 => ((mapsheetsref11_Sin.f k a0).bind fun t188 => (if t187 = t188 then ((series_Cos.f k a0).bind fun t189 => ((mapsheetsref11_Cos.f k a0).bind fun t190 => (if t189 = t190 then ((mapsheetslaw11_awake.f k).bind fun t191 => (some t191)) else (none)))) else (none)))) else (none)) = some r := H
  have A3 := Aside0.mk A30
  clear A30
  by_cases c4 : t185 = t186
  · rw [if_pos c4] at H
    have c4b0 : (t185 == t186) = true := beq_iff_eq.mpr c4
    have c4b1 : (t185 != t186) = false := bne_eq_false_iff_eq.mpr c4
    clear c4
    replace H := Option.bind_eq_some_iff.mp H
    obtain ⟨t187, A50, H⟩ := H
    replace H : ((mapsheetsref11_Sin.f k a0).bind fun t188 => (if t187 = t188 then ((series_Cos.f k a0).bind fun t189 => ((mapsheetsref11_Cos.f k a0).bind fun t190 => (if t189 = t190 then ((mapsheetslaw11_awake.f k).bind fun t191 => (some t191)) else (none)))) else (none))) = some r := H
    have A5 := Aside0.mk A50
    clear A50
    replace H := Option.bind_eq_some_iff.mp H
    obtain ⟨t188, A60, H⟩ := H
    replace H : (if t187 = t188 then ((series_Cos.f k a0).bind fun t189 => ((mapsheetsref11_Cos.f k a0).bind fun t190 => (if t189 = t190 then ((mapsheetslaw11_awake.f k).bind fun t191 => (some t191)) else (none)))) else (none)) = some r := H
    have A6 := Aside0.mk A60
    clear A60
    by_cases c7 : t187 = t188
    · rw [if_pos c7] at H
      have c7b0 : (t187 == t188) = true := beq_iff_eq.mpr c7
      have c7b1 : (t187 != t188) = false := bne_eq_false_iff_eq.mpr c7
      clear c7
      replace H := Option.bind_eq_some_iff.mp H
      obtain ⟨t189, A80, H⟩ := H
      replace H : ((mapsheetsref11_Cos.f k a0).bind fun t190 => (if t189 = t190 then ((mapsheetslaw11_awake.f k).bind fun t191 => (some t191)) else (none))) = some r := H
      have A8 := Aside0.mk A80
      clear A80
      replace H := Option.bind_eq_some_iff.mp H
      obtain ⟨t190, A90, H⟩ := H
      replace H : (if t189 = t190 then ((mapsheetslaw11_awake.f k).bind fun t191 => (some t191)) else (none)) = some r := H
      have A9 := Aside0.mk A90
      clear A90
      by_cases c10 : t189 = t190
      · rw [if_pos c10] at H
        have c10b0 : (t189 == t190) = true := beq_iff_eq.mpr c10
        have c10b1 : (t189 != t190) = false := bne_eq_false_iff_eq.mpr c10
        clear c10
        replace H := Option.bind_eq_some_iff.mp H
        obtain ⟨t191, A110, H⟩ := H
        replace H : (some t191) = some r := H
        have A11 := Aside0.mk A110
        clear A110
        obtain rfl := Option.some.inj H
        go_enter Try.func3, Try.ntmps3
        go_wp2_with (first | ((with_reducible refine gate_callee (f := 12) rfl ?_); refine goesL_ (some 4) rfl rfl Try.func12 (by kernel_rfl) rfl #[.int .i64 a0] rfl (by (try simp only [List.map_toArray, List.map_cons, List.map_nil]); first | done | rfl | (simp only [List.length_drop, List.length_take]; rfl)) ?_; (with_reducible refine (series_Rad.calls k a0 t185 _ A2.out).mono ?_); rintro e w' ⟨rfl, ⟨nd, rfl⟩⟩; refine ⟨_, rfl, ?_⟩) | ((with_reducible refine gate_callee (f := 13) rfl ?_); refine goesL_ (some 6) rfl rfl Try.func13 (by kernel_rfl) rfl #[.int .i64 a0] rfl (by (try simp only [List.map_toArray, List.map_cons, List.map_nil]); first | done | rfl | (simp only [List.length_drop, List.length_take]; rfl)) ?_; (with_reducible refine (mapsheetsref11_Rad.calls a0 t186 _ A3.out).mono ?_); rintro e w' ⟨rfl, ⟨nd, rfl⟩⟩; refine ⟨_, rfl, ?_⟩) | (go_at_call 14; (with_reducible refine (series_Sin.calls k a0 t187 _ A5.out).mono ?_); rintro e w12 ⟨rfl, hb⟩; have n0_ := Aside0.mk (below_step (by repeat (first | (with_reducible first | exact HB.out | apply below_alloc | apply pw_below_drewN | apply below_drew1) | exact HB.out)) hb); clear HB; have HB := n0_; clear n0_; (try clear hb); (try clear hb2); (try clear hk); (try clear hi)) | (go_at_call 15; (with_reducible refine (mapsheetsref11_Sin.calls k a0 t188 _ A6.out).mono ?_); rintro e w13 ⟨rfl, hb⟩; have n0_ := Aside0.mk (below_step (by repeat (first | (with_reducible first | exact HB.out | apply below_alloc | apply pw_below_drewN | apply below_drew1) | exact HB.out)) hb); clear HB; have HB := n0_; clear n0_; (try clear hb); (try clear hb2); (try clear hk); (try clear hi)) | (go_at_call 16; (with_reducible refine (series_Cos.calls k a0 t189 _ A8.out).mono ?_); rintro e w14 ⟨rfl, hb⟩; have n0_ := Aside0.mk (below_step (by repeat (first | (with_reducible first | exact HB.out | apply below_alloc | apply pw_below_drewN | apply below_drew1) | exact HB.out)) hb); clear HB; have HB := n0_; clear n0_; (try clear hb); (try clear hb2); (try clear hk); (try clear hi)) | (go_at_call 17; (with_reducible refine (mapsheetsref11_Cos.calls k a0 t190 _ A9.out).mono ?_); rintro e w15 ⟨rfl, hb⟩; have n0_ := Aside0.mk (below_step (by repeat (first | (with_reducible first | exact HB.out | apply below_alloc | apply pw_below_drewN | apply below_drew1) | exact HB.out)) hb); clear HB; have HB := n0_; clear n0_; (try clear hb); (try clear hb2); (try clear hk); (try clear hi)) | (go_at_call 18; (with_reducible refine (mapsheetslaw11_awake.calls k  t191 _ A11.out).mono ?_); rintro e w16 ⟨rfl, hb⟩; have n0_ := Aside0.mk (below_step (by repeat (first | (with_reducible first | exact HB.out | apply below_alloc | apply pw_below_drewN | apply below_drew1) | exact HB.out)) hb); clear HB; have HB := n0_; clear n0_; (try clear hb); (try clear hb2); (try clear hk); (try clear hi)))
        go_ret
        exact ⟨by first | rfl | (simp [errW_none, errW_some] <;> rfl) | (simp [*, errW_none, errW_some] <;> rfl), by repeat (first | (with_reducible first | exact HB.out | apply below_alloc | apply pw_below_drewN | apply below_drew1) | exact HB.out)⟩
      · rw [if_neg c10] at H
        exact absurd H (by simp)
    · rw [if_neg c7] at H
      exact absurd H (by simp)
  · rw [if_neg c4] at H
    exact absurd H (by simp)

/-- THE ONE PURE STATEMENT of mapsheetslaw11_SeriesSines: yours. -/
def mapsheetslaw11_SeriesSines.Pure : Prop := ∀ (a0 : Int), (Lit.int .i64 a0).wf = true → ∃ k, mapsheetslaw11_SeriesSines.f k a0 = some true
theorem mapsheetslaw11_SeriesSines.walk (P : mapsheetslaw11_SeriesSines.Pure) (a0 : Int) (w : World) (w0 : (Lit.int .i64 a0).wf = true) :
    Calls Try.prog 3 #[.int .i64 a0] w fun e w' => e = .returned (.bool true) ∧ Below w.heap.size w w' := by
  obtain ⟨k, h⟩ := P a0 w0
  refine (mapsheetslaw11_SeriesSines.calls k a0 true w h).mono ?_
  rintro e w' ⟨rfl, hd⟩
  exact ⟨rfl, hd⟩

end Go.Proofs.Ytaehaehgngafnaa.P
