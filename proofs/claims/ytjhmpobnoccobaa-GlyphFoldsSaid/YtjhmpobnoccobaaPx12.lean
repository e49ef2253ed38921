-- Written by wip/tools/xprint.py (this session's program, over the kit's print.py) for this seat.
import Derived.Test.YtjhmpobnoccobaaPx0
import Derived.Test.YtjhmpobnoccobaaPx1
import Derived.Test.YtjhmpobnoccobaaPx2
import Derived.Test.YtjhmpobnoccobaaPx5
namespace Go.Proofs.Ytjhmpobnoccobaa.P
open Go.RowKit Go.Proofs.YtjhmpobnoccobaaW.PrintWords Go.Proofs.YtjhmpobnoccobaaW.PrintLast Go.Proofs.YtjhmpobnoccobaaW.PrintMore
attribute [local go_sem] max2_int min2_int max_two min_two max_three min_three max_four min_four   -- for this text's walks alone
set_option linter.unusedVariables false
set_option linter.unusedSimpArgs false

/-! ### mapsheetslaw06_GlyphFolds: function 7 -/
def mapsheetslaw06_GlyphFolds.f (k : Nat) (a0 : Int) : Option (Bool) := (glyph_Fold.f k a0).bind fun t228 => ((glyph_Script.f k t228).bind fun t229 => ((glyph_Script.f k a0).bind fun t230 => (if t229 = t230 then ((glyph_Fold.f k t228).bind fun t231 => (if t231 = t228 then ((mapsheetslaw06_awake.f k).bind fun t232 => (some t232)) else (none))) else (none))))
theorem mapsheetslaw06_GlyphFolds.mono : ∀ a0 k, LeO (mapsheetslaw06_GlyphFolds.f k a0) (mapsheetslaw06_GlyphFolds.f (k + 1) a0) := by
 intro a0 k
 unfold mapsheetslaw06_GlyphFolds.f
 repeat' first
   | (with_reducible exact glyph_Fold.mono _ _)
   | (with_reducible exact glyph_Script.mono _ _)
   | (with_reducible exact mapsheetslaw06_awake.mono _)
   | (with_reducible exact LeO.refl _)
   | (with_reducible exact LeO.none _)
   | (with_reducible refine LeO.ite ?_ ?_)
   | (with_reducible refine LeO.bind ?_ (fun _ => ?_))
   | exact glyph_Fold.mono _ _
   | exact glyph_Script.mono _ _
   | exact mapsheetslaw06_awake.mono _
   | exact LeO.none _
   | refine LeO.ite ?_ ?_
   | refine LeO.bind ?_ (fun _ => ?_)
set_option maxHeartbeats 8000000 in
set_option maxRecDepth 100000 in
theorem mapsheetslaw06_GlyphFolds.calls (k : Nat) (a0 : Int) (r : Bool) (w : World) (h : mapsheetslaw06_GlyphFolds.f k a0 = some r) :
  Calls Try.prog 7 #[.int .i64 a0] w fun e w' => e = .returned (.bool r) ∧ Below w.heap.size w w' := by
 have HB := Aside0.mk (Below.refl w.heap.size w)
 have H : ((glyph_Fold.f k a0).bind fun t228 => ((glyph_Script.f k t228).bind fun t229 => ((glyph_Script.f k a0).bind fun t230 => (if t229 = t230 then ((glyph_Fold.f k t228).bind fun t231 => (if t231 = t228 then ((mapsheetslaw06_awake.f k).bind fun t232 => (some t232)) else (none))) else (none))))) = some r := h
 clear h
 replace H := Option.bind_eq_some_iff.mp H
 obtain ⟨t228, A20, H⟩ := H
 replace H : ((glyph_Script.f k t228).bind fun t229 => ((glyph_Script.f k a0).bind fun t230 => (if t229 = t230 then ((glyph_Fold.f k t228).bind fun t231 => (if t231 = t228 then ((mapsheetslaw06_awake.f k).bind fun t232 => (some t232)) else (none))) else (none)))) = some r := H
 have A2 := Aside0.mk A20
 clear A20
 replace H := Option.bind_eq_some_iff.mp H
 obtain ⟨t229, A30, H⟩ := H
 replace H : ((glyph_Script.f k a0).bind fun t230 => (if t229 = t230 then ((glyph_Fold.f k t228).bind fun t231 => (if t231 = t228 then ((mapsheetslaw06_awake.f k).bind fun t232 => (some t232)) else (none))) else (none))) = some r := H
 have A3 := Aside0.mk A30
 clear A30
 replace H := Option.bind_eq_some_iff.mp H
 obtain ⟨t230, A40, H⟩ := H
 replace H : (if t229 = t230 then ((glyph_Fold.f k t228).bind fun t231 => (if t231 = t228 then ((mapsheetslaw06_awake.f k).bind fun t232 => (some t232)) else (none))) else (none)) = some r := H
 have A4 := Aside0.mk A40
 clear A40
 by_cases c5 : t229 = t230
 ·rw [if_pos c5] at H
  have c5b0 : (t229 == t230) = true := beq_iff_eq.mpr c5
  have c5b1 : (t229 != t230) = false := bne_eq_false_iff_eq.mpr c5
  clear c5
  replace H := Option.bind_eq_some_iff.mp H
  obtain ⟨t231, A60, H⟩ := H
  replace H : (if t231 = t228 then ((mapsheetslaw06_awake.f k).bind fun t232 => (some t232)) else (none)) = some r := H
  have A6 := Aside0.mk A60
  clear A60
  by_cases c7 : t231 = t228
  ·rw [if_pos c7] at H
   have c7b0 : (t231 == t228) = true := beq_iff_eq.mpr c7
   have c7b1 : (t231 != t228) = false := bne_eq_false_iff_eq.mpr c7
   clear c7
   replace H := Option.bind_eq_some_iff.mp H
   obtain ⟨t232, A80, H⟩ := H
   replace H : (some t232) = some r := H
   have A8 := Aside0.mk A80
   clear A80
   obtain rfl := Option.some.inj H
   go_enter Try.func7, Try.ntmps7
   go_wp2_with (first | ((with_reducible refine gate_callee (f := 22) rfl ?_); refine goesL_ (some 5) rfl rfl Try.func22 (by kernel_rfl) rfl #[.int .i64 a0] rfl (by (try simp only [List.map_toArray, List.map_cons, List.map_nil]); first | done | rfl | (simp only [List.length_drop, List.length_take]; rfl)) ?_; (with_reducible refine (glyph_Fold.calls k a0 t228 _ A2.out).mono ?_); rintro e w9 ⟨rfl, hb⟩; refine ⟨_, rfl, ?_⟩; have n0_ := Aside0.mk (below_step (by repeat (first | (with_reducible first | exact HB.out | apply below_alloc | apply pw_below_drewN | apply below_drew1) | exact HB.out)) hb); clear HB; have HB := n0_; clear n0_; (try clear hb); (try clear hb2); (try clear hk); (try clear hi)) | ((with_reducible refine gate_callee (f := 18) rfl ?_); refine goesL_ (some 7) rfl rfl Try.func18 (by kernel_rfl) rfl #[.int .i64 t228] rfl (by (try simp only [List.map_toArray, List.map_cons, List.map_nil]); first | done | rfl | (simp only [List.length_drop, List.length_take]; rfl)) ?_; (with_reducible refine (glyph_Script.calls k t228 t229 _ A3.out).mono ?_); rintro e w10 ⟨rfl, hb⟩; refine ⟨_, rfl, ?_⟩; have n0_ := Aside0.mk (below_step (by repeat (first | (with_reducible first | exact HB.out | apply below_alloc | apply pw_below_drewN | apply below_drew1) | exact HB.out)) hb); clear HB; have HB := n0_; clear n0_; (try clear hb); (try clear hb2); (try clear hk); (try clear hi)) | ((with_reducible refine gate_callee (f := 18) rfl ?_); refine goesL_ (some 9) rfl rfl Try.func18 (by kernel_rfl) rfl #[.int .i64 a0] rfl (by (try simp only [List.map_toArray, List.map_cons, List.map_nil]); first | done | rfl | (simp only [List.length_drop, List.length_take]; rfl)) ?_; (with_reducible refine (glyph_Script.calls k a0 t230 _ A4.out).mono ?_); rintro e w11 ⟨rfl, hb⟩; refine ⟨_, rfl, ?_⟩; have n0_ := Aside0.mk (below_step (by repeat (first | (with_reducible first | exact HB.out | apply below_alloc | apply pw_below_drewN | apply below_drew1) | exact HB.out)) hb); clear HB; have HB := n0_; clear n0_; (try clear hb); (try clear hb2); (try clear hk); (try clear hi)) | (go_at_call 22; (with_reducible refine (glyph_Fold.calls k t228 t231 _ A6.out).mono ?_); rintro e w12 ⟨rfl, hb⟩; have n0_ := Aside0.mk (below_step (by repeat (first | (with_reducible first | exact HB.out | apply below_alloc | apply pw_below_drewN | apply below_drew1) | exact HB.out)) hb); clear HB; have HB := n0_; clear n0_; (try clear hb); (try clear hb2); (try clear hk); (try clear hi)) | (go_at_call 15; (with_reducible refine (mapsheetslaw06_awake.calls k  t232 _ A8.out).mono ?_); rintro e w13 ⟨rfl, hb⟩; have n0_ := Aside0.mk (below_step (by repeat (first | (with_reducible first | exact HB.out | apply below_alloc | apply pw_below_drewN | apply below_drew1) | exact HB.out)) hb); clear HB; have HB := n0_; clear n0_; (try clear hb); (try clear hb2); (try clear hk); (try clear hi)))
   go_ret
   exact ⟨by first | rfl | (simp [errW_none, errW_some] <;> rfl) | (simp [*, errW_none, errW_some] <;> rfl), by repeat (first | (with_reducible first | exact HB.out | apply below_alloc | apply pw_below_drewN | apply below_drew1) | exact HB.out)⟩
  ·rw [if_neg c7] at H
   exact absurd H (by simp)
 ·rw [if_neg c5] at H
  exact absurd H (by simp)

/-- THE ONE PURE STATEMENT of mapsheetslaw06_GlyphFolds: yours. -/
def mapsheetslaw06_GlyphFolds.Pure : Prop := ∀ (a0 : Int), (Lit.int .i64 a0).wf = true → ∃ k, mapsheetslaw06_GlyphFolds.f k a0 = some true
theorem mapsheetslaw06_GlyphFolds.walk (P : mapsheetslaw06_GlyphFolds.Pure) (a0 : Int) (w : World) (w0 : (Lit.int .i64 a0).wf = true) :
  Calls Try.prog 7 #[.int .i64 a0] w fun e w' => e = .returned (.bool true) ∧ Below w.heap.size w w' := by
 obtain ⟨k, h⟩ := P a0 w0
 refine (mapsheetslaw06_GlyphFolds.calls k a0 true w h).mono ?_
 rintro e w' ⟨rfl, hd⟩
 exact ⟨rfl, hd⟩

end Go.Proofs.Ytjhmpobnoccobaa.P
