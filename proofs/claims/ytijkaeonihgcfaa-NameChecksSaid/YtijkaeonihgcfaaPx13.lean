-- Written by wip/tools/xprint.py (this session's program, over the kit's print.py) for this seat.
import Derived.Test.YtijkaeonihgcfaaPx0
import Derived.Test.YtijkaeonihgcfaaPx1
import Derived.Test.YtijkaeonihgcfaaPx2
import Derived.Test.YtijkaeonihgcfaaPx4
import Derived.Test.YtijkaeonihgcfaaPx5
import Derived.Test.YtijkaeonihgcfaaPx9
import Derived.Test.YtijkaeonihgcfaaPx11
import Derived.Test.YtijkaeonihgcfaaPx12
namespace Go.Proofs.Ytijkaeonihgcfaa.P
open Go.RowKit Go.Proofs.YtijkaeonihgcfaaW.PrintWords Go.Proofs.YtijkaeonihgcfaaW.PrintLast Go.Proofs.YtijkaeonihgcfaaW.PrintMore
attribute [local go_sem] max2_int min2_int max_two min_two max_three min_three max_four min_four   -- for this text's walks alone
set_option linter.unusedVariables false
set_option linter.unusedSimpArgs false

/-! ### mapsheetslaw07_NameChecks: function 3 -/
def mapsheetslaw07_NameChecks.f (k : Nat) (a0 : ByteArray) : Option (Bool) := (mapsheetslaw07_light.f a0 (⟨#[]⟩ : ByteArray) (⟨#[]⟩ : ByteArray)).bind fun t208 => (if t208 = true then ((name_Key.f k a0).bind fun bt210 => ((mapsheetsref07_Key.f k a0).bind fun bt214 => ((mapsheetslaw07_awake.f k).bind fun t218 => (if t218 = true then ((name_Check.f k a0).bind fun t219 => ((mapsheetsref07_Check.f k a0).bind fun t220 => (if t219 = t220 then (if bt210.2 = bt214.2 then ((mapsheetsref04_Same.f k bt210.1 bt214.1).bind fun t221 => (some t221)) else (none)) else (none)))) else (none))))) else ((mapsheetslaw07_awake.f k).bind fun t209 => (some t209)))
theorem mapsheetslaw07_NameChecks.mono : ∀ a0 k, LeO (mapsheetslaw07_NameChecks.f k a0) (mapsheetslaw07_NameChecks.f (k + 1) a0) := by
 intro a0 k
 unfold mapsheetslaw07_NameChecks.f
 repeat' first
   | (with_reducible exact mapsheetslaw07_awake.mono _)
   | (with_reducible exact mapsheetsref04_Same.mono _ _ _)
   | (with_reducible exact mapsheetsref07_Check.mono _ _)
   | (with_reducible exact mapsheetsref07_Key.mono _ _)
   | (with_reducible exact name_Check.mono _ _)
   | (with_reducible exact name_Key.mono _ _)
   | (with_reducible exact LeO.refl _)
   | (with_reducible exact LeO.none _)
   | (with_reducible refine LeO.ite ?_ ?_)
   | (with_reducible refine LeO.bind ?_ (fun _ => ?_))
   | exact mapsheetslaw07_awake.mono _
   | exact mapsheetsref04_Same.mono _ _ _
   | exact mapsheetsref07_Check.mono _ _
   | exact mapsheetsref07_Key.mono _ _
   | exact name_Check.mono _ _
   | exact name_Key.mono _ _
   | exact LeO.none _
   | refine LeO.ite ?_ ?_
   | refine LeO.bind ?_ (fun _ => ?_)
set_option maxHeartbeats 8000000 in
set_option maxRecDepth 100000 in
theorem mapsheetslaw07_NameChecks.calls (k : Nat) (a0 : ByteArray) (r : Bool) (w : World) (hml : ML w) (h : mapsheetslaw07_NameChecks.f k a0 = some r) :
  Calls Try.prog 3 #[.string a0] w fun e w' => e = .returned (.bool r) ∧ Below w.heap.size w w' := by
 have HM := Aside0.mk hml
 clear hml
 have HB := Aside0.mk (Below.refl w.heap.size w)
 have H : ((mapsheetslaw07_light.f a0 (⟨#[]⟩ : ByteArray) (⟨#[]⟩ : ByteArray)).bind fun t208 => (if t208 = true then ((name_Key.f k a0).bind fun bt210 => ((mapsheetsref07_Key.f k a0).bind fun bt214 => ((mapsheetslaw07_awake.f k).bind fun t218 => (if t218 = true then ((name_Check.f k a0).bind fun t219 => ((mapsheetsref07_Check.f k a0).bind fun t220 => (if t219 = t220 then (if bt210.2 = bt214.2 then ((mapsheetsref04_Same.f k bt210.1 bt214.1).bind fun t221 => (some t221)) else (none)) else (none)))) else (none))))) else ((mapsheetslaw07_awake.f k).bind fun t209 => (some t209)))) = some r := h
 clear h
 replace H := Option.bind_eq_some_iff.mp H
 obtain ⟨t208, A20, H⟩ := H
 replace H : (if t208 = true then ((name_Key.f k a0).bind fun bt210 => ((mapsheetsref07_Key.f k a0).bind fun bt214 => ((mapsheetslaw07_awake.f k).bind fun t218 => (if t218 = true then ((name_Check.f k a0).bind fun t219 => ((mapsheetsref07_Check.f k a0).bind fun t220 => (if t219 = t220 then (if bt210.2 = bt214.2 then ((mapsheetsref04_Same.f k bt210.1 bt214.1).bind fun t221 => (some t221)) else (none)) else (none)))) else (none))))) else ((mapsheetslaw07_awake.f k).bind fun t209 => (some t209))) = some r := H
 have A2 := Aside0.mk A20
 clear A20
 by_cases c3 : t208 = true
 ·subst c3
  have H1 : ((name_Key.f k a0).bind fun bt210 => ((mapsheetsref07_Key.f k a0).bind fun bt214 => ((mapsheetslaw07_awake.f k).bind fun t218 => (if t218 = true then ((name_Check.f k a0).bind fun t219 => ((mapsheetsref07_Check.f k a0).bind fun t220 => (if t219 = t220 then (if bt210.2 = bt214.2 then ((mapsheetsref04_Same.f k bt210.1 bt214.1).bind fun t221 => (some t221)) else (none)) else (none)))) else (none))))) = some r := by rw [if_pos rfl] at H; exact H
  clear H
  have H := H1
  clear H1
  replace H := Option.bind_eq_some_iff.mp H
  obtain ⟨⟨t210, t211⟩, A40, H⟩ := H
  replace H : ((mapsheetsref07_Key.f k a0).bind fun bt214 => ((mapsheetslaw07_awake.f k).bind fun t218 => (if t218 = true then ((name_Check.f k a0).bind fun t219 => ((mapsheetsref07_Check.f k a0).bind fun t220 => (if t219 = t220 then (if t211 = bt214.2 then ((mapsheetsref04_Same.f k t210 bt214.1).bind fun t221 => (some t221)) else (none)) else (none)))) else (none)))) = some r := H
  have A4 := Aside0.mk A40
  clear A40
  replace H := Option.bind_eq_some_iff.mp H
  obtain ⟨⟨t214, t215⟩, A50, H⟩ := H
  replace H : ((mapsheetslaw07_awake.f k).bind fun t218 => (if t218 = true then ((name_Check.f k a0).bind fun t219 => ((mapsheetsref07_Check.f k a0).bind fun t220 => (if t219 = t220 then (if t211 = t215 then ((mapsheetsref04_Same.f k t210 t214).bind fun t221 => (some t221)) else (none)) else (none)))) else (none))) = some r := H
  have A5 := Aside0.mk A50
  clear A50
  replace H := Option.bind_eq_some_iff.mp H
  obtain ⟨t218, A60, H⟩ := H
  replace H : (if t218 = true then ((name_Check.f k a0).bind fun t219 => ((mapsheetsref07_Check.f k a0).bind fun t220 => (if t219 = t220 then (if t211 = t215 then ((mapsheetsref04_Same.f k t210 t214).bind fun t221 => (some t221)) else (none)) else (none)))) else (none)) = some r := H
  have A6 := Aside0.mk A60
  clear A60
  by_cases c7 : t218 = true
  ·subst c7
   have H1 : ((name_Check.f k a0).bind fun t219 => ((mapsheetsref07_Check.f k a0).bind fun t220 => (if t219 = t220 then (if t211 = t215 then ((mapsheetsref04_Same.f k t210 t214).bind fun t221 => (some t221)) else (none)) else (none)))) = some r := by rw [if_pos rfl] at H; exact H
   clear H
   have H := H1
   clear H1
   replace H := Option.bind_eq_some_iff.mp H
   obtain ⟨t219, A80, H⟩ := H
   replace H : ((mapsheetsref07_Check.f k a0).bind fun t220 => (if t219 = t220 then (if t211 = t215 then ((mapsheetsref04_Same.f k t210 t214).bind fun t221 => (some t221)) else (none)) else (none))) = some r := H
   have A8 := Aside0.mk A80
   clear A80
   replace H := Option.bind_eq_some_iff.mp H
   obtain ⟨t220, A90, H⟩ := H
   replace H : (if t219 = t220 then (if t211 = t215 then ((mapsheetsref04_Same.f k t210 t214).bind fun t221 => (some t221)) else (none)) else (none)) = some r := H
   have A9 := Aside0.mk A90
   clear A90
   by_cases c10 : t219 = t220
   ·rw [if_pos c10] at H
    have c10b0 : (t219 == t220) = true := beq_iff_eq.mpr c10
    have c10b1 : (t219 != t220) = false := bne_eq_false_iff_eq.mpr c10
    clear c10
    by_cases c11 : t211 = t215
    ·rw [if_pos c11] at H
     have c11b0 : (t211 == t215) = true := beq_iff_eq.mpr c11
     have c11b1 : (t211 != t215) = false := bne_eq_false_iff_eq.mpr c11
     clear c11
     replace H := Option.bind_eq_some_iff.mp H
     obtain ⟨t221, A120, H⟩ := H
     replace H : (some t221) = some r := H
     have A12 := Aside0.mk A120
     clear A120
     obtain rfl := Option.some.inj H
     go_enter Try.func3, Try.ntmps3
     go_wp2_with (first | ((with_reducible refine gate_callee (f := 10) rfl ?_); refine goesL_ (some 8) rfl rfl Try.func10 (by kernel_rfl) rfl #[.string a0, .string (⟨#[]⟩ : ByteArray), .string (⟨#[]⟩ : ByteArray)] rfl (by (try simp only [List.map_toArray, List.map_cons, List.map_nil]); first | done | rfl | (simp only [List.length_drop, List.length_take]; rfl)) ?_; (with_reducible refine (mapsheetslaw07_light.calls a0 (⟨#[]⟩ : ByteArray) (⟨#[]⟩ : ByteArray) true _ A2.out).mono ?_); rintro e w' ⟨rfl, ⟨nd, rfl⟩⟩; refine ⟨_, rfl, ?_⟩) | ((with_reducible refine gate_callee (f := 12) rfl ?_); refine goesL_ (some 13) rfl rfl Try.func12 (by kernel_rfl) rfl #[.string a0] rfl (by (try simp only [List.map_toArray, List.map_cons, List.map_nil]); first | done | rfl | (simp only [List.length_drop, List.length_take]; rfl)) ?_; (with_reducible refine (name_Key.calls k a0 t210 t211 _ (ML.below HM.out (by repeat (first | (with_reducible first | exact HB.out | apply below_alloc | apply pw_below_drewN | apply below_drew1) | exact HB.out))) A4.out).mono ?_); rintro e w13 ⟨v212, rfl, ho0, hb⟩; refine ⟨_, rfl, ?_⟩; have n0_ := Aside0.mk (Kd.R_lower ho0 (below_size (by repeat (first | (with_reducible first | exact HB.out | apply below_alloc | apply pw_below_drewN | apply below_drew1) | exact HB.out)))); have n1_ := Aside0.mk (below_step (by repeat (first | (with_reducible first | exact HB.out | apply below_alloc | apply pw_below_drewN | apply below_drew1) | exact HB.out)) hb); clear HB; have HO213 := n0_; have HB := n1_; clear n0_ n1_; (try clear hb); (try clear hb2); (try clear hk); (try clear hi); (try clear ho0)) | ((with_reducible refine gate_callee (f := 13) rfl ?_); refine goesL_ (some 18) rfl rfl Try.func13 (by kernel_rfl) rfl #[.string a0] rfl (by (try simp only [List.map_toArray, List.map_cons, List.map_nil]); first | done | rfl | (simp only [List.length_drop, List.length_take]; rfl)) ?_; (with_reducible refine (mapsheetsref07_Key.calls k a0 t214 t215 _ A5.out).mono ?_); rintro e w14 ⟨v216, rfl, ho0, hb⟩; refine ⟨_, rfl, ?_⟩; have n0_ := Aside0.mk (Kd.R_elder' (by (with_reducible repeat (first | apply Kd.R_alloc | apply Kd.R_drewN | apply Kd.R_drew)); exact HO213.out) (Kd.R_base ho0) hb); have n1_ := Aside0.mk (Kd.R_lower (Kd.R_new' ho0 (Kd.R_lt (by (with_reducible repeat (first | apply Kd.R_alloc | apply Kd.R_drewN | apply Kd.R_drew)); exact HO213.out))) (below_size (by repeat (first | (with_reducible first | exact HB.out | apply below_alloc | apply pw_below_drewN | apply below_drew1) | exact HB.out)))); have n2_ := Aside0.mk (below_step (by repeat (first | (with_reducible first | exact HB.out | apply below_alloc | apply pw_below_drewN | apply below_drew1) | exact HB.out)) hb); clear HO213; clear HB; have HO213 := n0_; have HO217 := n1_; have HB := n2_; clear n0_ n1_ n2_; (try clear hb); (try clear hb2); (try clear hk); (try clear hi); (try clear ho0)) | ((with_reducible refine gate_callee (f := 11) rfl ?_); refine goesL_ (some 21) rfl rfl Try.func11 (by kernel_rfl) rfl #[] rfl (by (try simp only [List.map_toArray, List.map_cons, List.map_nil]); first | done | rfl | (simp only [List.length_drop, List.length_take]; rfl)) ?_; (with_reducible refine (mapsheetslaw07_awake.calls k  true _ (ML.below HM.out (by repeat (first | (with_reducible first | exact HB.out | apply below_alloc | apply pw_below_drewN | apply below_drew1) | exact HB.out))) A6.out).mono ?_); rintro e w15 ⟨rfl, hb⟩; refine ⟨_, rfl, ?_⟩; have n0_ := Aside0.mk (Kd.R_below (by (with_reducible repeat (first | apply Kd.R_alloc | apply Kd.R_drewN | apply Kd.R_drew)); exact HO213.out) hb); have n1_ := Aside0.mk (Kd.R_below (by (with_reducible repeat (first | apply Kd.R_alloc | apply Kd.R_drewN | apply Kd.R_drew)); exact HO217.out) hb); have n2_ := Aside0.mk (below_step (by repeat (first | (with_reducible first | exact HB.out | apply below_alloc | apply pw_below_drewN | apply below_drew1) | exact HB.out)) hb); clear HO213; clear HO217; clear HB; have HO213 := n0_; have HO217 := n1_; have HB := n2_; clear n0_ n1_ n2_; (try clear hb); (try clear hb2); (try clear hk); (try clear hi)) | (go_at_call 14; (with_reducible refine (name_Check.calls k a0 t219 _ (ML.below HM.out (by repeat (first | (with_reducible first | exact HB.out | apply below_alloc | apply pw_below_drewN | apply below_drew1) | exact HB.out))) A8.out).mono ?_); rintro e w16 ⟨rfl, hb⟩; have n0_ := Aside0.mk (Kd.R_below (by (with_reducible repeat (first | apply Kd.R_alloc | apply Kd.R_drewN | apply Kd.R_drew)); exact HO213.out) hb); have n1_ := Aside0.mk (Kd.R_below (by (with_reducible repeat (first | apply Kd.R_alloc | apply Kd.R_drewN | apply Kd.R_drew)); exact HO217.out) hb); have n2_ := Aside0.mk (below_step (by repeat (first | (with_reducible first | exact HB.out | apply below_alloc | apply pw_below_drewN | apply below_drew1) | exact HB.out)) hb); clear HO213; clear HO217; clear HB; have HO213 := n0_; have HO217 := n1_; have HB := n2_; clear n0_ n1_ n2_; (try clear hb); (try clear hb2); (try clear hk); (try clear hi)) | (go_at_call 15; (with_reducible refine (mapsheetsref07_Check.calls k a0 t220 _ A9.out).mono ?_); rintro e w17 ⟨rfl, hb⟩; have n0_ := Aside0.mk (Kd.R_below (by (with_reducible repeat (first | apply Kd.R_alloc | apply Kd.R_drewN | apply Kd.R_drew)); exact HO213.out) hb); have n1_ := Aside0.mk (Kd.R_below (by (with_reducible repeat (first | apply Kd.R_alloc | apply Kd.R_drewN | apply Kd.R_drew)); exact HO217.out) hb); have n2_ := Aside0.mk (below_step (by repeat (first | (with_reducible first | exact HB.out | apply below_alloc | apply pw_below_drewN | apply below_drew1) | exact HB.out)) hb); clear HO213; clear HO217; clear HB; have HO213 := n0_; have HO217 := n1_; have HB := n2_; clear n0_ n1_ n2_; (try clear hb); (try clear hb2); (try clear hk); (try clear hi); obtain ⟨Ao18, co18, eo18⟩ := Kd.R_slice HO213.out; subst eo18; obtain ⟨Ao19, co19, eo19⟩ := Kd.R_slice HO217.out; subst eo19) | (go_at_call 16; (with_reducible refine (mapsheetsref04_Same.calls k _ _ t210 _ _ t214 t221 _ ?side1 ?side2 ?side3 ?side4 A12.out).mono ?_); (case side1 => repeat (first | exact (Kd.R_reads' HO213.out).2.2 | (with_reducible refine Kd.C_alloc ?_ _) | (with_reducible refine Kd.C_drewN ?_ _) | (with_reducible refine Kd.C_drew ?_))); (case side2 => exact (Kd.R_reads' HO213.out).2.1); (case side3 => repeat (first | exact (Kd.R_reads' HO217.out).2.2 | (with_reducible refine Kd.C_alloc ?_ _) | (with_reducible refine Kd.C_drewN ?_ _) | (with_reducible refine Kd.C_drew ?_))); (case side4 => exact (Kd.R_reads' HO217.out).2.1); rintro e w' ⟨rfl, ⟨nd, rfl⟩⟩))
     go_ret
     exact ⟨by first | rfl | (simp [errW_none, errW_some] <;> rfl) | (simp [*, errW_none, errW_some] <;> rfl), by repeat (first | (with_reducible first | exact HB.out | apply below_alloc | apply pw_below_drewN | apply below_drew1) | exact HB.out)⟩
    ·rw [if_neg c11] at H
     exact absurd H (by simp)
   ·rw [if_neg c10] at H
    exact absurd H (by simp)
  ·replace c7 := Bool.eq_false_iff.mpr c7
   subst c7
   have H1 : (none) = some r := by rw [if_neg (show ¬ (false = true) by decide)] at H; exact H
   clear H
   have H := H1
   clear H1
   exact absurd H (by simp)
 ·replace c3 := Bool.eq_false_iff.mpr c3
  subst c3
  have H1 : ((mapsheetslaw07_awake.f k).bind fun t209 => (some t209)) = some r := by rw [if_neg (show ¬ (false = true) by decide)] at H; exact H
  clear H
  have H := H1
  clear H1
  replace H := Option.bind_eq_some_iff.mp H
  obtain ⟨t209, A200, H⟩ := H
  replace H : (some t209) = some r := H
  have A20 := Aside0.mk A200
  clear A200
  obtain rfl := Option.some.inj H
  go_enter Try.func3, Try.ntmps3
  go_wp2_with (first | ((with_reducible refine gate_callee (f := 10) rfl ?_); refine goesL_ (some 8) rfl rfl Try.func10 (by kernel_rfl) rfl #[.string a0, .string (⟨#[]⟩ : ByteArray), .string (⟨#[]⟩ : ByteArray)] rfl (by (try simp only [List.map_toArray, List.map_cons, List.map_nil]); first | done | rfl | (simp only [List.length_drop, List.length_take]; rfl)) ?_; (with_reducible refine (mapsheetslaw07_light.calls a0 (⟨#[]⟩ : ByteArray) (⟨#[]⟩ : ByteArray) false _ A2.out).mono ?_); rintro e w' ⟨rfl, ⟨nd, rfl⟩⟩; refine ⟨_, rfl, ?_⟩) | ((with_reducible refine gate_callee (f := 11) rfl ?_); refine goesL_ (some 10) rfl rfl Try.func11 (by kernel_rfl) rfl #[] rfl (by (try simp only [List.map_toArray, List.map_cons, List.map_nil]); first | done | rfl | (simp only [List.length_drop, List.length_take]; rfl)) ?_; (with_reducible refine (mapsheetslaw07_awake.calls k  t209 _ (ML.below HM.out (by repeat (first | (with_reducible first | exact HB.out | apply below_alloc | apply pw_below_drewN | apply below_drew1) | exact HB.out))) A20.out).mono ?_); rintro e w21 ⟨rfl, hb⟩; refine ⟨_, rfl, ?_⟩; have n0_ := Aside0.mk (below_step (by repeat (first | (with_reducible first | exact HB.out | apply below_alloc | apply pw_below_drewN | apply below_drew1) | exact HB.out)) hb); clear HB; have HB := n0_; clear n0_; (try clear hb); (try clear hb2); (try clear hk); (try clear hi)))
  go_ret
  exact ⟨by first | rfl | (simp [errW_none, errW_some] <;> rfl) | (simp [*, errW_none, errW_some] <;> rfl), by repeat (first | (with_reducible first | exact HB.out | apply below_alloc | apply pw_below_drewN | apply below_drew1) | exact HB.out)⟩

/-- THE ONE PURE STATEMENT of mapsheetslaw07_NameChecks: yours. -/
def mapsheetslaw07_NameChecks.Pure : Prop := ∀ (a0 : ByteArray), a0.size ≤ 140737488351232 → ∃ k, mapsheetslaw07_NameChecks.f k a0 = some true
theorem mapsheetslaw07_NameChecks.walk (P : mapsheetslaw07_NameChecks.Pure) (a0 : ByteArray) (w : World) (w0 : a0.size ≤ 140737488351232) (hml : ML w) :
  Calls Try.prog 3 #[.string a0] w fun e w' => e = .returned (.bool true) ∧ Below w.heap.size w w' := by
 obtain ⟨k, h⟩ := P a0 w0
 refine (mapsheetslaw07_NameChecks.calls k a0 true w hml h).mono ?_
 rintro e w' ⟨rfl, hd⟩
 exact ⟨rfl, hd⟩

end Go.Proofs.Ytijkaeonihgcfaa.P
