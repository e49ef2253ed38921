-- Written by wip/tools/xprint.py (this session's program, over the kit's print.py) for this seat.
import Derived.Test.YtjhmpobnoccobaaPx0
import Derived.Test.YtjhmpobnoccobaaPx1
import Derived.Test.YtjhmpobnoccobaaPx5
namespace Go.Proofs.Ytjhmpobnoccobaa.P
open Go.RowKit Go.Proofs.YtjhmpobnoccobaaW.PrintWords Go.Proofs.YtjhmpobnoccobaaW.PrintLast Go.Proofs.YtjhmpobnoccobaaW.PrintMore
attribute [local go_sem] max2_int min2_int max_two min_two max_three min_three max_four min_four   -- for this text's walks alone
set_option linter.unusedVariables false
set_option linter.unusedSimpArgs false

/-! ### mapsheetslaw06_GlyphWidths: function 8 -/
def mapsheetslaw06_GlyphWidths.j0 : Nat → Int → Int → Int → Bool → Option (Bool)
 | 0, _, _, _, _ => none
 | k + 1, x0, x1, x5, x19 => if x19 = true then (if x5 = 0 then ((mapsheetslaw06_awake.f k).bind fun t235 => (some t235)) else (none)) else (if x1 = 64 then (if x5 ≥ 1 then (if x5 ≤ 64 then ((mapsheetslaw06_awake.f k).bind fun t236 => (some t236)) else (none)) else (none)) else (if x5 ≥ 1 then (if x5 ≤ x1 then ((glyph_Width.f k x0 (wrap64 (x1 + 1))).bind fun t237 => (if x5 ≤ t237 then ((mapsheetslaw06_awake.f k).bind fun t238 => (some t238)) else (none))) else (none)) else (none)))
def mapsheetslaw06_GlyphWidths.f (k : Nat) (a0 : Int) (a1 : Int) : Option (Bool) := (glyph_Width.f k a0 a1).bind fun t233 => (if a1 < 1 then (mapsheetslaw06_GlyphWidths.j0 k a0 a1 t233 true) else (if a1 > 64 then (mapsheetslaw06_GlyphWidths.j0 k a0 a1 t233 true) else ((glyph_Script.f k a0).bind fun t234 => (mapsheetslaw06_GlyphWidths.j0 k a0 a1 t233 (decide (t234 < 0))))))
theorem mapsheetslaw06_GlyphWidths.mono_l : ∀ k, (∀ y0 y1 y2 y3, LeO (mapsheetslaw06_GlyphWidths.j0 k y0 y1 y2 y3) (mapsheetslaw06_GlyphWidths.j0 (k + 1) y0 y1 y2 y3))
 | 0 => fun _ _ _ _ r h => by simp [mapsheetslaw06_GlyphWidths.j0] at h
 | k + 1 => by
  have ih0 := mapsheetslaw06_GlyphWidths.mono_l k
  ·intro y0 y1 y2 y3
   unfold mapsheetslaw06_GlyphWidths.j0
   repeat' first
   | (with_reducible exact ih0 _ _ _ _)
   | (with_reducible exact glyph_Script.mono _ _)
   | (with_reducible exact glyph_Width.mono _ _ _)
   | (with_reducible exact mapsheetslaw06_awake.mono _)
   | (with_reducible exact LeO.refl _)
   | (with_reducible exact LeO.none _)
   | (with_reducible refine LeO.ite ?_ ?_)
   | (with_reducible refine LeO.bind ?_ (fun _ => ?_))
   | exact ih0 _ _ _ _
   | exact glyph_Script.mono _ _
   | exact glyph_Width.mono _ _ _
   | exact mapsheetslaw06_awake.mono _
   | exact LeO.none _
   | refine LeO.ite ?_ ?_
   | refine LeO.bind ?_ (fun _ => ?_)
theorem mapsheetslaw06_GlyphWidths.mono : ∀ a0 a1 k, LeO (mapsheetslaw06_GlyphWidths.f k a0 a1) (mapsheetslaw06_GlyphWidths.f (k + 1) a0 a1) := by
 intro a0 a1 k
 have ih0 := mapsheetslaw06_GlyphWidths.mono_l k
 unfold mapsheetslaw06_GlyphWidths.f
 repeat' first
   | (with_reducible exact ih0 _ _ _ _)
   | (with_reducible exact glyph_Script.mono _ _)
   | (with_reducible exact glyph_Width.mono _ _ _)
   | (with_reducible exact mapsheetslaw06_awake.mono _)
   | (with_reducible exact LeO.refl _)
   | (with_reducible exact LeO.none _)
   | (with_reducible refine LeO.ite ?_ ?_)
   | (with_reducible refine LeO.bind ?_ (fun _ => ?_))
   | exact ih0 _ _ _ _
   | exact glyph_Script.mono _ _
   | exact glyph_Width.mono _ _ _
   | exact mapsheetslaw06_awake.mono _
   | exact LeO.none _
   | refine LeO.ite ?_ ?_
   | refine LeO.bind ?_ (fun _ => ?_)
set_option maxHeartbeats 8000000 in
set_option maxRecDepth 100000 in
theorem mapsheetslaw06_GlyphWidths.calls (k : Nat) (a0 : Int) (a1 : Int) (r : Bool) (w : World) (h : mapsheetslaw06_GlyphWidths.f k a0 a1 = some r) :
  Calls Try.prog 8 #[.int .i64 a0, .int .i64 a1] w fun e w' => e = .returned (.bool r) ∧ Below w.heap.size w w' := by
 have HB := Aside0.mk (Below.refl w.heap.size w)
 have H : ((glyph_Width.f k a0 a1).bind fun t233 => (if a1 < 1 then (mapsheetslaw06_GlyphWidths.j0 k a0 a1 t233 true) else (if a1 > 64 then (mapsheetslaw06_GlyphWidths.j0 k a0 a1 t233 true) else ((glyph_Script.f k a0).bind fun t234 => (mapsheetslaw06_GlyphWidths.j0 k a0 a1 t233 (decide (t234 < 0))))))) = some r := h
 clear h
 replace H := Option.bind_eq_some_iff.mp H
 obtain ⟨t233, A30, H⟩ := H
 replace H : (if a1 < 1 then (mapsheetslaw06_GlyphWidths.j0 k a0 a1 t233 true) else (if a1 > 64 then (mapsheetslaw06_GlyphWidths.j0 k a0 a1 t233 true) else ((glyph_Script.f k a0).bind fun t234 => (mapsheetslaw06_GlyphWidths.j0 k a0 a1 t233 (decide (t234 < 0)))))) = some r := H
 have A3 := Aside0.mk A30
 clear A30
 have HC4 := Aside0.mk H
 clear H
 go_enter Try.func8, Try.ntmps8
 go_upto_region 2 with (first | ((with_reducible refine gate_callee (f := 20) rfl ?_); refine goesL_ (some 8) rfl rfl Try.func20 (by kernel_rfl) rfl #[.int .i64 a0, .int .i64 a1] rfl (by (try simp only [List.map_toArray, List.map_cons, List.map_nil]); first | done | rfl | (simp only [List.length_drop, List.length_take]; rfl)) ?_; (with_reducible refine (glyph_Width.calls k a0 a1 t233 _ A3.out).mono ?_); rintro e w5 ⟨rfl, hb⟩; refine ⟨_, rfl, ?_⟩; have n0_ := Aside0.mk (below_step (by repeat (first | (with_reducible first | exact HB.out | apply below_alloc | apply pw_below_drewN | apply below_drew1) | exact HB.out)) hb); clear HB; have HB := n0_; clear n0_; (try clear hb); (try clear hb2); (try clear hk); (try clear hi)))
 (try simp only [Act.put, List.setIfInBounds_toArray, List.set_cons_zero, List.set_cons_succ])
 go_cut [19] (fun v19 wc => ∃ (kq : Nat) (x19_3 : Bool), v19 = .bool x19_3 ∧ Aside0 (mapsheetslaw06_GlyphWidths.j0 kq a0 a1 t233 x19_3 = some r) ∧ Aside0 (kq ≤ k) ∧ Aside0 (Below w.heap.size w wc))
 case first =>
  have H := HC4.out
  clear HC4
  by_cases c6 : a1 < 1
  ·rw [if_pos c6] at H
   have c6b0 : decide (a1 < 1) = true := decide_eq_true c6
   clear c6
   (first | rw [c6b0] | (simp only [i64_w, i32_w]; rw [c6b0]) | skip)
   have H' := Aside0.mk H
   clear H
   go_wp2
   go_meet
   case rel => exact ⟨_, (true), (by first | rfl | (simp; done) | (simp [*]; done)), H', ⟨by first | omega | exact Nat.le_refl _⟩, ⟨by repeat (first | (with_reducible first | exact HB.out | apply below_alloc | apply pw_below_drewN | apply below_drew1) | exact HB.out)⟩⟩
  ·rw [if_neg c6] at H
   have c6b0 : decide (a1 < 1) = false := decide_eq_false c6
   clear c6
   (first | rw [c6b0] | (simp only [i64_w, i32_w]; rw [c6b0]) | skip)
   by_cases c7 : a1 > 64
   ·rw [if_pos c7] at H
    have c7b0 : decide (64 < a1) = true := decide_eq_true c7
    clear c7
    have H' := Aside0.mk H
    clear H
    go_wp2
    go_meet
    case rel => exact ⟨_, (true), (by first | rfl | (simp; done) | (simp [*]; done)), H', ⟨by first | omega | exact Nat.le_refl _⟩, ⟨by repeat (first | (with_reducible first | exact HB.out | apply below_alloc | apply pw_below_drewN | apply below_drew1) | exact HB.out)⟩⟩
   ·rw [if_neg c7] at H
    have c7b0 : decide (64 < a1) = false := decide_eq_false c7
    clear c7
    replace H := Option.bind_eq_some_iff.mp H
    obtain ⟨t234, A80, H⟩ := H
    replace H : (mapsheetslaw06_GlyphWidths.j0 k a0 a1 t233 (decide (t234 < 0))) = some r := H
    have A8 := Aside0.mk A80
    clear A80
    have H' := Aside0.mk H
    clear H
    go_wp2_with (first | (go_at_call 18; (with_reducible refine (glyph_Script.calls k a0 t234 _ A8.out).mono ?_); rintro e w9 ⟨rfl, hb⟩; have n0_ := Aside0.mk (below_step (by repeat (first | (with_reducible first | exact HB.out | apply below_alloc | apply pw_below_drewN | apply below_drew1) | exact HB.out)) hb); clear HB; have HB := n0_; clear n0_; (try clear hb); (try clear hb2); (try clear hk); (try clear hi)))
    go_meet
    case rel => exact ⟨_, (decide (t234 < 0)), (by first | rfl | (simp; done) | (simp [*]; done)), H', ⟨by first | omega | exact Nat.le_refl _⟩, ⟨by repeat (first | (with_reducible first | exact HB.out | apply below_alloc | apply pw_below_drewN | apply below_drew1) | exact HB.out)⟩⟩
 case rest =>
  clear HC4
  try clear c2
  try clear p2
  try clear c6
  try clear c6b0
  try clear c7
  try clear c7b0
  try clear c8
  obtain ⟨kq, x19_3, rfl, HA, HJ3, HB⟩ := hcut
  cases kq with
  | zero => exact absurd HA.out (by simp [mapsheetslaw06_GlyphWidths.j0])
  | succ kj3 =>
   have H := HA.out
   clear HA
   simp only [mapsheetslaw06_GlyphWidths.j0] at H
   by_cases c10 : x19_3 = true
   ·subst c10
    have H1 : (if t233 = 0 then ((mapsheetslaw06_awake.f kj3).bind fun t235 => (some t235)) else (none)) = some r := by rw [if_pos rfl] at H; exact H
    clear H
    have H := H1
    clear H1
    by_cases c11 : t233 = 0
    ·rw [if_pos c11] at H
     have c11b0 : (t233 == 0) = true := beq_iff_eq.mpr c11
     have c11b1 : (t233 != 0) = false := bne_eq_false_iff_eq.mpr c11
     clear c11
     replace H := Option.bind_eq_some_iff.mp H
     obtain ⟨t235, A120, H⟩ := H
     replace H : (some t235) = some r := H
     have A12 := Aside0.mk A120
     clear A120
     obtain rfl := Option.some.inj H
     go_wp2_with (first | (go_at_call 15; (with_reducible refine (mapsheetslaw06_awake.calls kj3  t235 _ A12.out).mono ?_); rintro e w13 ⟨rfl, hb⟩; have n0_ := Aside0.mk (below_step (by repeat (first | (with_reducible first | exact HB.out | apply below_alloc | apply pw_below_drewN | apply below_drew1) | exact HB.out)) hb); clear HB; have HB := n0_; clear n0_; (try clear hb); (try clear hb2); (try clear hk); (try clear hi)))
     go_ret
     exact ⟨by first | rfl | (simp [errW_none, errW_some] <;> rfl) | (simp [*, errW_none, errW_some] <;> rfl), by repeat (first | (with_reducible first | exact HB.out | apply below_alloc | apply pw_below_drewN | apply below_drew1) | exact HB.out)⟩
    ·rw [if_neg c11] at H
     exact absurd H (by simp)
   ·replace c10 := Bool.eq_false_iff.mpr c10
    subst c10
    have H1 : (if a1 = 64 then (if t233 ≥ 1 then (if t233 ≤ 64 then ((mapsheetslaw06_awake.f kj3).bind fun t236 => (some t236)) else (none)) else (none)) else (if t233 ≥ 1 then (if t233 ≤ a1 then ((glyph_Width.f kj3 a0 (wrap64 (a1 + 1))).bind fun t237 => (if t233 ≤ t237 then ((mapsheetslaw06_awake.f kj3).bind fun t238 => (some t238)) else (none))) else (none)) else (none))) = some r := by rw [if_neg (show ¬ (false = true) by decide)] at H; exact H
    clear H
    have H := H1
    clear H1
    by_cases c14 : a1 = 64
    ·rw [if_pos c14] at H
     have c14b0 : (a1 == 64) = true := beq_iff_eq.mpr c14
     have c14b1 : (a1 != 64) = false := bne_eq_false_iff_eq.mpr c14
     clear c14
     by_cases c15 : t233 ≥ 1
     ·rw [if_pos c15] at H
      have c15b0 : decide (1 ≤ t233) = true := decide_eq_true c15
      clear c15
      by_cases c16 : t233 ≤ 64
      ·rw [if_pos c16] at H
       have c16b0 : decide (t233 ≤ 64) = true := decide_eq_true c16
       clear c16
       replace H := Option.bind_eq_some_iff.mp H
       obtain ⟨t236, A170, H⟩ := H
       replace H : (some t236) = some r := H
       have A17 := Aside0.mk A170
       clear A170
       obtain rfl := Option.some.inj H
       go_wp2_with (first | (go_at_call 15; (with_reducible refine (mapsheetslaw06_awake.calls kj3  t236 _ A17.out).mono ?_); rintro e w18 ⟨rfl, hb⟩; have n0_ := Aside0.mk (below_step (by repeat (first | (with_reducible first | exact HB.out | apply below_alloc | apply pw_below_drewN | apply below_drew1) | exact HB.out)) hb); clear HB; have HB := n0_; clear n0_; (try clear hb); (try clear hb2); (try clear hk); (try clear hi)))
       go_ret
       exact ⟨by first | rfl | (simp [errW_none, errW_some] <;> rfl) | (simp [*, errW_none, errW_some] <;> rfl), by repeat (first | (with_reducible first | exact HB.out | apply below_alloc | apply pw_below_drewN | apply below_drew1) | exact HB.out)⟩
      ·rw [if_neg c16] at H
       exact absurd H (by simp)
     ·rw [if_neg c15] at H
      exact absurd H (by simp)
    ·rw [if_neg c14] at H
     have c14b0 : (a1 == 64) = false := beq_eq_false_iff_ne.mpr c14
     have c14b1 : (a1 != 64) = true := bne_iff_ne.mpr c14
     by_cases c19 : t233 ≥ 1
     ·rw [if_pos c19] at H
      have c19b0 : decide (1 ≤ t233) = true := decide_eq_true c19
      clear c19
      by_cases c20 : t233 ≤ a1
      ·rw [if_pos c20] at H
       have c20b0 : decide (t233 ≤ a1) = true := decide_eq_true c20
       clear c20
       replace H := Option.bind_eq_some_iff.mp H
       obtain ⟨t237, A210, H⟩ := H
       replace H : (if t233 ≤ t237 then ((mapsheetslaw06_awake.f kj3).bind fun t238 => (some t238)) else (none)) = some r := H
       have A21 := Aside0.mk A210
       clear A210
       by_cases c22 : t233 ≤ t237
       ·rw [if_pos c22] at H
        have c22b0 : decide (t233 ≤ t237) = true := decide_eq_true c22
        clear c22
        replace H := Option.bind_eq_some_iff.mp H
        obtain ⟨t238, A230, H⟩ := H
        replace H : (some t238) = some r := H
        have A23 := Aside0.mk A230
        clear A230
        obtain rfl := Option.some.inj H
        go_wp2_with (first | (go_at_call 20; (with_reducible refine (glyph_Width.calls kj3 a0 (wrap64 (a1 + 1)) t237 _ A21.out).mono ?_); rintro e w24 ⟨rfl, hb⟩; have n0_ := Aside0.mk (below_step (by repeat (first | (with_reducible first | exact HB.out | apply below_alloc | apply pw_below_drewN | apply below_drew1) | exact HB.out)) hb); clear HB; have HB := n0_; clear n0_; (try clear hb); (try clear hb2); (try clear hk); (try clear hi)) | (go_at_call 15; (with_reducible refine (mapsheetslaw06_awake.calls kj3  t238 _ A23.out).mono ?_); rintro e w25 ⟨rfl, hb⟩; have n0_ := Aside0.mk (below_step (by repeat (first | (with_reducible first | exact HB.out | apply below_alloc | apply pw_below_drewN | apply below_drew1) | exact HB.out)) hb); clear HB; have HB := n0_; clear n0_; (try clear hb); (try clear hb2); (try clear hk); (try clear hi)))
        go_ret
        exact ⟨by first | rfl | (simp [errW_none, errW_some] <;> rfl) | (simp [*, errW_none, errW_some] <;> rfl), by repeat (first | (with_reducible first | exact HB.out | apply below_alloc | apply pw_below_drewN | apply below_drew1) | exact HB.out)⟩
       ·rw [if_neg c22] at H
        exact absurd H (by simp)
      ·rw [if_neg c20] at H
       exact absurd H (by simp)
     ·rw [if_neg c19] at H
      exact absurd H (by simp)

/-- THE ONE PURE STATEMENT of mapsheetslaw06_GlyphWidths: yours. -/
def mapsheetslaw06_GlyphWidths.Pure : Prop := ∀ (a0 : Int) (a1 : Int), (Lit.int .i64 a0).wf = true → (Lit.int .i64 a1).wf = true → ∃ k, mapsheetslaw06_GlyphWidths.f k a0 a1 = some true
theorem mapsheetslaw06_GlyphWidths.walk (P : mapsheetslaw06_GlyphWidths.Pure) (a0 : Int) (a1 : Int) (w : World) (w0 : (Lit.int .i64 a0).wf = true) (w1 : (Lit.int .i64 a1).wf = true) :
  Calls Try.prog 8 #[.int .i64 a0, .int .i64 a1] w fun e w' => e = .returned (.bool true) ∧ Below w.heap.size w w' := by
 obtain ⟨k, h⟩ := P a0 a1 w0 w1
 refine (mapsheetslaw06_GlyphWidths.calls k a0 a1 true w h).mono ?_
 rintro e w' ⟨rfl, hd⟩
 exact ⟨rfl, hd⟩

end Go.Proofs.Ytjhmpobnoccobaa.P
