-- Written by wip/tools/xprint.py (this session's program, over the kit's print.py) for this seat.
import Derived.Test.YtijkaeonihgcfaaPx0
import Derived.Test.YtijkaeonihgcfaaPx1
import Derived.Test.YtijkaeonihgcfaaPx2
import Derived.Test.YtijkaeonihgcfaaPx3
import Derived.Test.YtijkaeonihgcfaaPx4
import Derived.Test.YtijkaeonihgcfaaPx5
import Derived.Test.YtijkaeonihgcfaaPx14
namespace Go.Proofs.Ytijkaeonihgcfaa.P
open Go.RowKit Go.Proofs.YtijkaeonihgcfaaW.PrintWords Go.Proofs.YtijkaeonihgcfaaW.PrintLast Go.Proofs.YtijkaeonihgcfaaW.PrintMore
attribute [local go_sem] max2_int min2_int max_two min_two max_three min_three max_four min_four   -- for this text's walks alone
set_option linter.unusedVariables false
set_option linter.unusedSimpArgs false

/-! ### mapsheetslaw07_NameCompares: function 4 -/
def mapsheetslaw07_NameCompares.f (k : Nat) (a0 : ByteArray) (a1 : ByteArray) : Option (Bool) := (mapsheetslaw07_light.f a0 a1 (⟨#[]⟩ : ByteArray)).bind fun t261 => (if t261 = true then ((mapsheetslaw07_awake.f k).bind fun t263 => (if t263 = true then ((name_Cmp.f k a0 a1).bind fun t264 => ((mapsheetsref07_Cmp.f k a0 a1).bind fun t265 => (if t264 = t265 then ((name_Begins.f k a0 a1).bind fun t266 => ((mapsheetsref07_Begins.f k a0 a1).bind fun t267 => (some (t266 == t267)))) else (none)))) else (none))) else ((mapsheetslaw07_awake.f k).bind fun t262 => (some t262)))
theorem mapsheetslaw07_NameCompares.mono : ∀ a0 a1 k, LeO (mapsheetslaw07_NameCompares.f k a0 a1) (mapsheetslaw07_NameCompares.f (k + 1) a0 a1) := by
 intro a0 a1 k
 unfold mapsheetslaw07_NameCompares.f
 repeat' first
   | (with_reducible exact mapsheetslaw07_awake.mono _)
   | (with_reducible exact mapsheetsref07_Begins.mono _ _ _)
   | (with_reducible exact mapsheetsref07_Cmp.mono _ _ _)
   | (with_reducible exact name_Begins.mono _ _ _)
   | (with_reducible exact name_Cmp.mono _ _ _)
   | (with_reducible exact LeO.refl _)
   | (with_reducible exact LeO.none _)
   | (with_reducible refine LeO.ite ?_ ?_)
   | (with_reducible refine LeO.bind ?_ (fun _ => ?_))
   | exact mapsheetslaw07_awake.mono _
   | exact mapsheetsref07_Begins.mono _ _ _
   | exact mapsheetsref07_Cmp.mono _ _ _
   | exact name_Begins.mono _ _ _
   | exact name_Cmp.mono _ _ _
   | exact LeO.none _
   | refine LeO.ite ?_ ?_
   | refine LeO.bind ?_ (fun _ => ?_)
set_option maxHeartbeats 8000000 in
set_option maxRecDepth 100000 in
theorem mapsheetslaw07_NameCompares.calls (k : Nat) (a0 : ByteArray) (a1 : ByteArray) (r : Bool) (w : World) (hml : ML w) (h : mapsheetslaw07_NameCompares.f k a0 a1 = some r) :
  Calls Try.prog 4 #[.string a0, .string a1] w fun e w' => e = .returned (.bool r) ∧ Below w.heap.size w w' := by
 have HM := Aside0.mk hml
 clear hml
 have HB := Aside0.mk (Below.refl w.heap.size w)
 have H : ((mapsheetslaw07_light.f a0 a1 (⟨#[]⟩ : ByteArray)).bind fun t261 => (if t261 = true then ((mapsheetslaw07_awake.f k).bind fun t263 => (if t263 = true then ((name_Cmp.f k a0 a1).bind fun t264 => ((mapsheetsref07_Cmp.f k a0 a1).bind fun t265 => (if t264 = t265 then ((name_Begins.f k a0 a1).bind fun t266 => ((mapsheetsref07_Begins.f k a0 a1).bind fun t267 => (some (t266 == t267)))) else (none)))) else (none))) else ((mapsheetslaw07_awake.f k).bind fun t262 => (some t262)))) = some r := h
 clear h
 replace H := Option.bind_eq_some_iff.mp H
 obtain ⟨t261, A30, H⟩ := H
 replace H : (if t261 = true then ((mapsheetslaw07_awake.f k).bind fun t263 => (if t263 = true then ((name_Cmp.f k a0 a1).bind fun t264 => ((mapsheetsref07_Cmp.f k a0 a1).bind fun t265 => (if t264 = t265 then ((name_Begins.f k a0 a1).bind fun t266 => ((mapsheetsref07_Begins.f k a0 a1).bind fun t267 => (some (t266 == t267)))) else (none)))) else (none))) else ((mapsheetslaw07_awake.f k).bind fun t262 => (some t262))) = some r := H
 have A3 := Aside0.mk A30
 clear A30
 by_cases c4 : t261 = true
 ·subst c4
  have H1 : ((mapsheetslaw07_awake.f k).bind fun t263 => (if t263 = true then ((name_Cmp.f k a0 a1).bind fun t264 => ((mapsheetsref07_Cmp.f k a0 a1).bind fun t265 => (if t264 = t265 then ((name_Begins.f k a0 a1).bind fun t266 => ((mapsheetsref07_Begins.f k a0 a1).bind fun t267 => (some (t266 == t267)))) else (none)))) else (none))) = some r := by rw [if_pos rfl] at H; exact H
  clear H
  have H := H1
  clear H1
  replace H := Option.bind_eq_some_iff.mp H
  obtain ⟨t263, A50, H⟩ := H
  replace H : (if t263 = true then ((name_Cmp.f k a0 a1).bind fun t264 => ((mapsheetsref07_Cmp.f k a0 a1).bind fun t265 => (if t264 = t265 then ((name_Begins.f k a0 a1).bind fun t266 => ((mapsheetsref07_Begins.f k a0 a1).bind fun t267 => (some (t266 == t267)))) else (none)))) else (none)) = some r := H
  have A5 := Aside0.mk A50
  clear A50
  by_cases c6 : t263 = true
  ·subst c6
   have H1 : ((name_Cmp.f k a0 a1).bind fun t264 => ((mapsheetsref07_Cmp.f k a0 a1).bind fun t265 => (if t264 = t265 then ((name_Begins.f k a0 a1).bind fun t266 => ((mapsheetsref07_Begins.f k a0 a1).bind fun t267 => (some (t266 == t267)))) else (none)))) = some r := by rw [if_pos rfl] at H; exact H
   clear H
   have H := H1
   clear H1
   replace H := Option.bind_eq_some_iff.mp H
   obtain ⟨t264, A70, H⟩ := H
   replace H : ((mapsheetsref07_Cmp.f k a0 a1).bind fun t265 => (if t264 = t265 then ((name_Begins.f k a0 a1).bind fun t266 => ((mapsheetsref07_Begins.f k a0 a1).bind fun t267 => (some (t266 == t267)))) else (none))) = some r := H
   have A7 := Aside0.mk A70
   clear A70
   replace H := Option.bind_eq_some_iff.mp H
   obtain ⟨t265, A80, H⟩ := H
   replace H : (if t264 = t265 then ((name_Begins.f k a0 a1).bind fun t266 => ((mapsheetsref07_Begins.f k a0 a1).bind fun t267 => (some (t266 == t267)))) else (none)) = some r := H
   have A8 := Aside0.mk A80
   clear A80
   by_cases c9 : t264 = t265
   ·rw [if_pos c9] at H
    have c9b0 : (t264 == t265) = true := beq_iff_eq.mpr c9
    have c9b1 : (t264 != t265) = false := bne_eq_false_iff_eq.mpr c9
    clear c9
    replace H := Option.bind_eq_some_iff.mp H
    obtain ⟨t266, A100, H⟩ := H
    replace H : ((mapsheetsref07_Begins.f k a0 a1).bind fun t267 => (some (t266 == t267))) = some r := H
    have A10 := Aside0.mk A100
    clear A100
    replace H := Option.bind_eq_some_iff.mp H
    obtain ⟨t267, A110, H⟩ := H
    replace H : (some (t266 == t267)) = some r := H
    have A11 := Aside0.mk A110
    clear A110
    obtain rfl := Option.some.inj H
    go_enter Try.func4, Try.ntmps4
    go_wp2_with (first | ((with_reducible refine gate_callee (f := 10) rfl ?_); refine goesL_ (some 7) rfl rfl Try.func10 (by kernel_rfl) rfl #[.string a0, .string a1, .string (⟨#[]⟩ : ByteArray)] rfl (by (try simp only [List.map_toArray, List.map_cons, List.map_nil]); first | done | rfl | (simp only [List.length_drop, List.length_take]; rfl)) ?_; (with_reducible refine (mapsheetslaw07_light.calls a0 a1 (⟨#[]⟩ : ByteArray) true _ A3.out).mono ?_); rintro e w' ⟨rfl, ⟨nd, rfl⟩⟩; refine ⟨_, rfl, ?_⟩) | ((with_reducible refine gate_callee (f := 11) rfl ?_); refine goesL_ (some 10) rfl rfl Try.func11 (by kernel_rfl) rfl #[] rfl (by (try simp only [List.map_toArray, List.map_cons, List.map_nil]); first | done | rfl | (simp only [List.length_drop, List.length_take]; rfl)) ?_; (with_reducible refine (mapsheetslaw07_awake.calls k  true _ (ML.below HM.out (by repeat (first | (with_reducible first | exact HB.out | apply below_alloc | apply pw_below_drewN | apply below_drew1) | exact HB.out))) A5.out).mono ?_); rintro e w12 ⟨rfl, hb⟩; refine ⟨_, rfl, ?_⟩; have n0_ := Aside0.mk (below_step (by repeat (first | (with_reducible first | exact HB.out | apply below_alloc | apply pw_below_drewN | apply below_drew1) | exact HB.out)) hb); clear HB; have HB := n0_; clear n0_; (try clear hb); (try clear hb2); (try clear hk); (try clear hi)) | (go_at_call 17; (with_reducible refine (name_Cmp.calls k a0 a1 t264 _ (ML.below HM.out (by repeat (first | (with_reducible first | exact HB.out | apply below_alloc | apply pw_below_drewN | apply below_drew1) | exact HB.out))) A7.out).mono ?_); rintro e w13 ⟨rfl, hb⟩; have n0_ := Aside0.mk (below_step (by repeat (first | (with_reducible first | exact HB.out | apply below_alloc | apply pw_below_drewN | apply below_drew1) | exact HB.out)) hb); clear HB; have HB := n0_; clear n0_; (try clear hb); (try clear hb2); (try clear hk); (try clear hi)) | (go_at_call 18; (with_reducible refine (mapsheetsref07_Cmp.calls k a0 a1 t265 _ A8.out).mono ?_); rintro e w14 ⟨rfl, hb⟩; have n0_ := Aside0.mk (below_step (by repeat (first | (with_reducible first | exact HB.out | apply below_alloc | apply pw_below_drewN | apply below_drew1) | exact HB.out)) hb); clear HB; have HB := n0_; clear n0_; (try clear hb); (try clear hb2); (try clear hk); (try clear hi)) | (go_at_call 19; (with_reducible refine (name_Begins.calls k a0 a1 t266 _ (ML.below HM.out (by repeat (first | (with_reducible first | exact HB.out | apply below_alloc | apply pw_below_drewN | apply below_drew1) | exact HB.out))) A10.out).mono ?_); rintro e w15 ⟨rfl, hb⟩; have n0_ := Aside0.mk (below_step (by repeat (first | (with_reducible first | exact HB.out | apply below_alloc | apply pw_below_drewN | apply below_drew1) | exact HB.out)) hb); clear HB; have HB := n0_; clear n0_; (try clear hb); (try clear hb2); (try clear hk); (try clear hi)) | (go_at_call 20; (with_reducible refine (mapsheetsref07_Begins.calls k a0 a1 t267 _ A11.out).mono ?_); rintro e w16 ⟨rfl, hb⟩; have n0_ := Aside0.mk (below_step (by repeat (first | (with_reducible first | exact HB.out | apply below_alloc | apply pw_below_drewN | apply below_drew1) | exact HB.out)) hb); clear HB; have HB := n0_; clear n0_; (try clear hb); (try clear hb2); (try clear hk); (try clear hi)))
    go_ret
    exact ⟨by first | rfl | (simp [errW_none, errW_some] <;> rfl) | (simp [*, errW_none, errW_some] <;> rfl), by repeat (first | (with_reducible first | exact HB.out | apply below_alloc | apply pw_below_drewN | apply below_drew1) | exact HB.out)⟩
   ·rw [if_neg c9] at H
    exact absurd H (by simp)
  ·replace c6 := Bool.eq_false_iff.mpr c6
   subst c6
   have H1 : (none) = some r := by rw [if_neg (show ¬ (false = true) by decide)] at H; exact H
   clear H
   have H := H1
   clear H1
   exact absurd H (by simp)
 ·replace c4 := Bool.eq_false_iff.mpr c4
  subst c4
  have H1 : ((mapsheetslaw07_awake.f k).bind fun t262 => (some t262)) = some r := by rw [if_neg (show ¬ (false = true) by decide)] at H; exact H
  clear H
  have H := H1
  clear H1
  replace H := Option.bind_eq_some_iff.mp H
  obtain ⟨t262, A170, H⟩ := H
  replace H : (some t262) = some r := H
  have A17 := Aside0.mk A170
  clear A170
  obtain rfl := Option.some.inj H
  go_enter Try.func4, Try.ntmps4
  go_wp2_with (first | ((with_reducible refine gate_callee (f := 10) rfl ?_); refine goesL_ (some 7) rfl rfl Try.func10 (by kernel_rfl) rfl #[.string a0, .string a1, .string (⟨#[]⟩ : ByteArray)] rfl (by (try simp only [List.map_toArray, List.map_cons, List.map_nil]); first | done | rfl | (simp only [List.length_drop, List.length_take]; rfl)) ?_; (with_reducible refine (mapsheetslaw07_light.calls a0 a1 (⟨#[]⟩ : ByteArray) false _ A3.out).mono ?_); rintro e w' ⟨rfl, ⟨nd, rfl⟩⟩; refine ⟨_, rfl, ?_⟩) | ((with_reducible refine gate_callee (f := 11) rfl ?_); refine goesL_ (some 9) rfl rfl Try.func11 (by kernel_rfl) rfl #[] rfl (by (try simp only [List.map_toArray, List.map_cons, List.map_nil]); first | done | rfl | (simp only [List.length_drop, List.length_take]; rfl)) ?_; (with_reducible refine (mapsheetslaw07_awake.calls k  t262 _ (ML.below HM.out (by repeat (first | (with_reducible first | exact HB.out | apply below_alloc | apply pw_below_drewN | apply below_drew1) | exact HB.out))) A17.out).mono ?_); rintro e w18 ⟨rfl, hb⟩; refine ⟨_, rfl, ?_⟩; have n0_ := Aside0.mk (below_step (by repeat (first | (with_reducible first | exact HB.out | apply below_alloc | apply pw_below_drewN | apply below_drew1) | exact HB.out)) hb); clear HB; have HB := n0_; clear n0_; (try clear hb); (try clear hb2); (try clear hk); (try clear hi)))
  go_ret
  exact ⟨by first | rfl | (simp [errW_none, errW_some] <;> rfl) | (simp [*, errW_none, errW_some] <;> rfl), by repeat (first | (with_reducible first | exact HB.out | apply below_alloc | apply pw_below_drewN | apply below_drew1) | exact HB.out)⟩

/-- THE ONE PURE STATEMENT of mapsheetslaw07_NameCompares: yours. -/
def mapsheetslaw07_NameCompares.Pure : Prop := ∀ (a0 : ByteArray) (a1 : ByteArray), a0.size ≤ 140737488351232 → a1.size ≤ 140737488351232 → ∃ k, mapsheetslaw07_NameCompares.f k a0 a1 = some true
theorem mapsheetslaw07_NameCompares.walk (P : mapsheetslaw07_NameCompares.Pure) (a0 : ByteArray) (a1 : ByteArray) (w : World) (w0 : a0.size ≤ 140737488351232) (w1 : a1.size ≤ 140737488351232) (hml : ML w) :
  Calls Try.prog 4 #[.string a0, .string a1] w fun e w' => e = .returned (.bool true) ∧ Below w.heap.size w w' := by
 obtain ⟨k, h⟩ := P a0 a1 w0 w1
 refine (mapsheetslaw07_NameCompares.calls k a0 a1 true w hml h).mono ?_
 rintro e w' ⟨rfl, hd⟩
 exact ⟨rfl, hd⟩

end Go.Proofs.Ytijkaeonihgcfaa.P
