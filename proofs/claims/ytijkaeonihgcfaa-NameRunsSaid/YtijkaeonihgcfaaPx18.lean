-- Written by wip/tools/xprint.py (this session's program, over the kit's print.py) for this seat.
import Derived.Test.YtijkaeonihgcfaaPx0
import Derived.Test.YtijkaeonihgcfaaPx1
import Derived.Test.YtijkaeonihgcfaaPx2
import Derived.Test.YtijkaeonihgcfaaPx3
import Derived.Test.YtijkaeonihgcfaaPx4
import Derived.Test.YtijkaeonihgcfaaPx5
namespace Go.Proofs.Ytijkaeonihgcfaa.P
open Go.RowKit Go.Proofs.YtijkaeonihgcfaaW.PrintWords Go.Proofs.YtijkaeonihgcfaaW.PrintLast Go.Proofs.YtijkaeonihgcfaaW.PrintMore
attribute [local go_sem] max2_int min2_int max_two min_two max_three min_three max_four min_four   -- for this text's walks alone
set_option linter.unusedVariables false
set_option linter.unusedSimpArgs false

/-! ### mapsheetslaw07_NameRuns: function 6 -/
mutual
def mapsheetslaw07_NameRuns.j0 : Nat → ByteArray → ByteArray → ByteArray → ByteArray → Bool → Option (Bool)
 | 0, _, _, _, _, _ => none
 | k + 1, x0, x1, x2, x3, x18 => if x18 = true then ((mapsheetslaw07_awake.f k).bind fun t276 => (some t276)) else ((name_Check.f k x1).bind fun t277 => (if t277 = 0 then ((name_Cmp.f k x0 x1).bind fun t278 => (if t278 ≤ 0 then ((name_Cmp.f k x1 x2).bind fun t279 => (if t279 ≤ 0 then ((name_Begins.f k x0 x3).bind fun t280 => (if t280 = true then ((name_Begins.f k x2 x3).bind fun t281 => (if t281 = true then ((name_Begins.f k x1 x3).bind fun t282 => (mapsheetslaw07_NameRuns.j1 k x0 x1 x2 (!t282))) else (mapsheetslaw07_NameRuns.j1 k x0 x1 x2 false))) else (mapsheetslaw07_NameRuns.j1 k x0 x1 x2 false))) else (mapsheetslaw07_NameRuns.j1 k x0 x1 x2 false))) else (mapsheetslaw07_NameRuns.j1 k x0 x1 x2 false))) else (mapsheetslaw07_NameRuns.j1 k x0 x1 x2 false)))
def mapsheetslaw07_NameRuns.j1 : Nat → ByteArray → ByteArray → ByteArray → Bool → Option (Bool)
 | 0, _, _, _, _ => none
 | k + 1, x0, x1, x2, x50 => if x50 = true then (none) else ((name_Begins.f k x0 x1).bind fun t283 => (if t283 = true then ((name_Begins.f k x1 x2).bind fun t284 => (if t284 = true then ((name_Begins.f k x0 x2).bind fun t285 => (mapsheetslaw07_NameRuns.j2 k x0 (!t285))) else (mapsheetslaw07_NameRuns.j2 k x0 false))) else (mapsheetslaw07_NameRuns.j2 k x0 false)))
def mapsheetslaw07_NameRuns.j2 : Nat → ByteArray → Bool → Option (Bool)
 | 0, _, _ => none
 | k + 1, x0, x64 => if x64 = true then (none) else ((mapsheetslaw07_awake.f k).bind fun t286 => (if t286 = true then ((name_Begins.f k x0 x0).bind fun t287 => ((name_Check.f k x0).bind fun t288 => (if (t287 == (t288 == 0)) = true then ((name_Begins.f k x0 (⟨#[]⟩ : ByteArray)).bind fun t289 => ((name_Check.f k x0).bind fun t290 => (some (t289 == (t288 == 0))))) else (none)))) else (none)))
end
def mapsheetslaw07_NameRuns.f (k : Nat) (a0 : ByteArray) (a1 : ByteArray) (a2 : ByteArray) (a3 : ByteArray) : Option (Bool) := (mapsheetslaw07_light.f a0 a1 a2).bind fun t275 => (if t275 = true then (mapsheetslaw07_NameRuns.j0 k a0 a1 a2 a3 (decide ((a3.size : Int) > 200))) else (mapsheetslaw07_NameRuns.j0 k a0 a1 a2 a3 true))
theorem mapsheetslaw07_NameRuns.mono_l : ∀ k, (∀ y0 y1 y2 y3 y4, LeO (mapsheetslaw07_NameRuns.j0 k y0 y1 y2 y3 y4) (mapsheetslaw07_NameRuns.j0 (k + 1) y0 y1 y2 y3 y4)) ∧ (∀ y0 y1 y2 y3, LeO (mapsheetslaw07_NameRuns.j1 k y0 y1 y2 y3) (mapsheetslaw07_NameRuns.j1 (k + 1) y0 y1 y2 y3)) ∧ (∀ y0 y1, LeO (mapsheetslaw07_NameRuns.j2 k y0 y1) (mapsheetslaw07_NameRuns.j2 (k + 1) y0 y1))
 | 0 => ⟨fun _ _ _ _ _ r h => by simp [mapsheetslaw07_NameRuns.j0] at h, fun _ _ _ _ r h => by simp [mapsheetslaw07_NameRuns.j1] at h, fun _ _ r h => by simp [mapsheetslaw07_NameRuns.j2] at h⟩
 | k + 1 => by
  obtain ⟨ih0, ih1, ih2⟩ := mapsheetslaw07_NameRuns.mono_l k
  refine ⟨?_, ?_, ?_⟩
  ·intro y0 y1 y2 y3 y4
   unfold mapsheetslaw07_NameRuns.j0
   repeat' first
   | (with_reducible exact ih0 _ _ _ _ _)
   | (with_reducible exact ih1 _ _ _ _)
   | (with_reducible exact ih2 _ _)
   | (with_reducible exact mapsheetslaw07_awake.mono _)
   | (with_reducible exact name_Begins.mono _ _ _)
   | (with_reducible exact name_Check.mono _ _)
   | (with_reducible exact name_Cmp.mono _ _ _)
   | (with_reducible exact LeO.refl _)
   | (with_reducible exact LeO.none _)
   | (with_reducible refine LeO.ite ?_ ?_)
   | (with_reducible refine LeO.bind ?_ (fun _ => ?_))
   | exact ih0 _ _ _ _ _
   | exact ih1 _ _ _ _
   | exact ih2 _ _
   | exact mapsheetslaw07_awake.mono _
   | exact name_Begins.mono _ _ _
   | exact name_Check.mono _ _
   | exact name_Cmp.mono _ _ _
   | exact LeO.none _
   | refine LeO.ite ?_ ?_
   | refine LeO.bind ?_ (fun _ => ?_)
  ·intro y0 y1 y2 y3
   unfold mapsheetslaw07_NameRuns.j1
   repeat' first
   | (with_reducible exact ih0 _ _ _ _ _)
   | (with_reducible exact ih1 _ _ _ _)
   | (with_reducible exact ih2 _ _)
   | (with_reducible exact mapsheetslaw07_awake.mono _)
   | (with_reducible exact name_Begins.mono _ _ _)
   | (with_reducible exact name_Check.mono _ _)
   | (with_reducible exact name_Cmp.mono _ _ _)
   | (with_reducible exact LeO.refl _)
   | (with_reducible exact LeO.none _)
   | (with_reducible refine LeO.ite ?_ ?_)
   | (with_reducible refine LeO.bind ?_ (fun _ => ?_))
   | exact ih0 _ _ _ _ _
   | exact ih1 _ _ _ _
   | exact ih2 _ _
   | exact mapsheetslaw07_awake.mono _
   | exact name_Begins.mono _ _ _
   | exact name_Check.mono _ _
   | exact name_Cmp.mono _ _ _
   | exact LeO.none _
   | refine LeO.ite ?_ ?_
   | refine LeO.bind ?_ (fun _ => ?_)
  ·intro y0 y1
   unfold mapsheetslaw07_NameRuns.j2
   repeat' first
   | (with_reducible exact ih0 _ _ _ _ _)
   | (with_reducible exact ih1 _ _ _ _)
   | (with_reducible exact ih2 _ _)
   | (with_reducible exact mapsheetslaw07_awake.mono _)
   | (with_reducible exact name_Begins.mono _ _ _)
   | (with_reducible exact name_Check.mono _ _)
   | (with_reducible exact name_Cmp.mono _ _ _)
   | (with_reducible exact LeO.refl _)
   | (with_reducible exact LeO.none _)
   | (with_reducible refine LeO.ite ?_ ?_)
   | (with_reducible refine LeO.bind ?_ (fun _ => ?_))
   | exact ih0 _ _ _ _ _
   | exact ih1 _ _ _ _
   | exact ih2 _ _
   | exact mapsheetslaw07_awake.mono _
   | exact name_Begins.mono _ _ _
   | exact name_Check.mono _ _
   | exact name_Cmp.mono _ _ _
   | exact LeO.none _
   | refine LeO.ite ?_ ?_
   | refine LeO.bind ?_ (fun _ => ?_)
theorem mapsheetslaw07_NameRuns.mono : ∀ a0 a1 a2 a3 k, LeO (mapsheetslaw07_NameRuns.f k a0 a1 a2 a3) (mapsheetslaw07_NameRuns.f (k + 1) a0 a1 a2 a3) := by
 intro a0 a1 a2 a3 k
 obtain ⟨ih0, ih1, ih2⟩ := mapsheetslaw07_NameRuns.mono_l k
 unfold mapsheetslaw07_NameRuns.f
 repeat' first
   | (with_reducible exact ih0 _ _ _ _ _)
   | (with_reducible exact ih1 _ _ _ _)
   | (with_reducible exact ih2 _ _)
   | (with_reducible exact mapsheetslaw07_awake.mono _)
   | (with_reducible exact name_Begins.mono _ _ _)
   | (with_reducible exact name_Check.mono _ _)
   | (with_reducible exact name_Cmp.mono _ _ _)
   | (with_reducible exact LeO.refl _)
   | (with_reducible exact LeO.none _)
   | (with_reducible refine LeO.ite ?_ ?_)
   | (with_reducible refine LeO.bind ?_ (fun _ => ?_))
   | exact ih0 _ _ _ _ _
   | exact ih1 _ _ _ _
   | exact ih2 _ _
   | exact mapsheetslaw07_awake.mono _
   | exact name_Begins.mono _ _ _
   | exact name_Check.mono _ _
   | exact name_Cmp.mono _ _ _
   | exact LeO.none _
   | refine LeO.ite ?_ ?_
   | refine LeO.bind ?_ (fun _ => ?_)
set_option maxHeartbeats 8000000 in
set_option maxRecDepth 100000 in
theorem mapsheetslaw07_NameRuns.calls (k : Nat) (a0 : ByteArray) (a1 : ByteArray) (a2 : ByteArray) (a3 : ByteArray) (r : Bool) (w : World) (hml : ML w) (h : mapsheetslaw07_NameRuns.f k a0 a1 a2 a3 = some r) :
  Calls Try.prog 6 #[.string a0, .string a1, .string a2, .string a3] w fun e w' => e = .returned (.bool r) ∧ Below w.heap.size w w' := by
 have HM := Aside0.mk hml
 clear hml
 have HB := Aside0.mk (Below.refl w.heap.size w)
 have H : ((mapsheetslaw07_light.f a0 a1 a2).bind fun t275 => (if t275 = true then (mapsheetslaw07_NameRuns.j0 k a0 a1 a2 a3 (decide ((a3.size : Int) > 200))) else (mapsheetslaw07_NameRuns.j0 k a0 a1 a2 a3 true))) = some r := h
 clear h
 have HC5 := Aside0.mk H
 clear H
 go_enter Try.func6, Try.ntmps6
 go_upto_region 1 with (fail)
 go_cut [18] (fun v18 wc => ∃ (kq : Nat) (x18_4 : Bool), v18 = .bool x18_4 ∧ Aside0 (mapsheetslaw07_NameRuns.j0 kq a0 a1 a2 a3 x18_4 = some r) ∧ Aside0 (kq ≤ k) ∧ Aside0 (Below w.heap.size w wc))
 case first =>
  have H := HC5.out
  clear HC5
  replace H := Option.bind_eq_some_iff.mp H
  obtain ⟨t275, A60, H⟩ := H
  replace H : (if t275 = true then (mapsheetslaw07_NameRuns.j0 k a0 a1 a2 a3 (decide ((a3.size : Int) > 200))) else (mapsheetslaw07_NameRuns.j0 k a0 a1 a2 a3 true)) = some r := H
  have A6 := Aside0.mk A60
  clear A60
  by_cases c7 : t275 = true
  ·subst c7
   have H1 : (mapsheetslaw07_NameRuns.j0 k a0 a1 a2 a3 (decide ((a3.size : Int) > 200))) = some r := by rw [if_pos rfl] at H; exact H
   clear H
   have H := H1
   clear H1
   have H' := Aside0.mk H
   clear H
   go_wp2_with (first | ((with_reducible refine gate_callee (f := 10) rfl ?_); refine goesL_ (some 12) rfl rfl Try.func10 (by kernel_rfl) rfl #[.string a0, .string a1, .string a2] rfl (by (try simp only [List.map_toArray, List.map_cons, List.map_nil]); first | done | rfl | (simp only [List.length_drop, List.length_take]; rfl)) ?_; (with_reducible refine (mapsheetslaw07_light.calls a0 a1 a2 true _ A6.out).mono ?_); rintro e w' ⟨rfl, ⟨nd, rfl⟩⟩; refine ⟨_, rfl, ?_⟩))
   go_meet
   case rel => exact ⟨_, (decide ((a3.size : Int) > 200)), (by first | rfl | (simp; done) | (simp [*]; done)), H', ⟨by first | omega | exact Nat.le_refl _⟩, ⟨by repeat (first | (with_reducible first | exact HB.out | apply below_alloc | apply pw_below_drewN | apply below_drew1) | exact HB.out)⟩⟩
  ·replace c7 := Bool.eq_false_iff.mpr c7
   subst c7
   have H1 : (mapsheetslaw07_NameRuns.j0 k a0 a1 a2 a3 true) = some r := by rw [if_neg (show ¬ (false = true) by decide)] at H; exact H
   clear H
   have H := H1
   clear H1
   have H' := Aside0.mk H
   clear H
   go_wp2_with (first | ((with_reducible refine gate_callee (f := 10) rfl ?_); refine goesL_ (some 12) rfl rfl Try.func10 (by kernel_rfl) rfl #[.string a0, .string a1, .string a2] rfl (by (try simp only [List.map_toArray, List.map_cons, List.map_nil]); first | done | rfl | (simp only [List.length_drop, List.length_take]; rfl)) ?_; (with_reducible refine (mapsheetslaw07_light.calls a0 a1 a2 false _ A6.out).mono ?_); rintro e w' ⟨rfl, ⟨nd, rfl⟩⟩; refine ⟨_, rfl, ?_⟩))
   go_meet
   case rel => exact ⟨_, (true), (by first | rfl | (simp; done) | (simp [*]; done)), H', ⟨by first | omega | exact Nat.le_refl _⟩, ⟨by repeat (first | (with_reducible first | exact HB.out | apply below_alloc | apply pw_below_drewN | apply below_drew1) | exact HB.out)⟩⟩
 case rest =>
  clear HC5
  try clear c1
  try clear p2
  try clear c6
  try clear c7
  obtain ⟨kq, x18_4, rfl, HA, HJ4, HB⟩ := hcut
  cases kq with
  | zero => exact absurd HA.out (by simp [mapsheetslaw07_NameRuns.j0])
  | succ kj4 =>
   have H := HA.out
   clear HA
   simp only [mapsheetslaw07_NameRuns.j0] at H
   by_cases c8 : x18_4 = true
   ·subst c8
    have H1 : ((mapsheetslaw07_awake.f kj4).bind fun t276 => (some t276)) = some r := by rw [if_pos rfl] at H; exact H
    clear H
    have H := H1
    clear H1
    replace H := Option.bind_eq_some_iff.mp H
    obtain ⟨t276, A90, H⟩ := H
    replace H : (some t276) = some r := H
    have A9 := Aside0.mk A90
    clear A90
    obtain rfl := Option.some.inj H
    go_wp2_with (first | ((with_reducible refine gate_callee (f := 11) rfl ?_); refine goesL_ (some 19) rfl rfl Try.func11 (by kernel_rfl) rfl #[] rfl (by (try simp only [List.map_toArray, List.map_cons, List.map_nil]); first | done | rfl | (simp only [List.length_drop, List.length_take]; rfl)) ?_; (with_reducible refine (mapsheetslaw07_awake.calls kj4  t276 _ (ML.below HM.out (by repeat (first | (with_reducible first | exact HB.out | apply below_alloc | apply pw_below_drewN | apply below_drew1) | exact HB.out))) A9.out).mono ?_); rintro e w10 ⟨rfl, hb⟩; refine ⟨_, rfl, ?_⟩; have n0_ := Aside0.mk (below_step (by repeat (first | (with_reducible first | exact HB.out | apply below_alloc | apply pw_below_drewN | apply below_drew1) | exact HB.out)) hb); clear HB; have HB := n0_; clear n0_; (try clear hb); (try clear hb2); (try clear hk); (try clear hi)))
    go_ret
    exact ⟨by first | rfl | (simp [errW_none, errW_some] <;> rfl) | (simp [*, errW_none, errW_some] <;> rfl), by repeat (first | (with_reducible first | exact HB.out | apply below_alloc | apply pw_below_drewN | apply below_drew1) | exact HB.out)⟩
   ·replace c8 := Bool.eq_false_iff.mpr c8
    subst c8
    have H1 : ((name_Check.f kj4 a1).bind fun t277 => (if t277 = 0 then ((name_Cmp.f kj4 a0 a1).bind fun t278 => (if t278 ≤ 0 then ((name_Cmp.f kj4 a1 a2).bind fun t279 => (if t279 ≤ 0 then ((name_Begins.f kj4 a0 a3).bind fun t280 => (if t280 = true then ((name_Begins.f kj4 a2 a3).bind fun t281 => (if t281 = true then ((name_Begins.f kj4 a1 a3).bind fun t282 => (mapsheetslaw07_NameRuns.j1 kj4 a0 a1 a2 (!t282))) else (mapsheetslaw07_NameRuns.j1 kj4 a0 a1 a2 false))) else (mapsheetslaw07_NameRuns.j1 kj4 a0 a1 a2 false))) else (mapsheetslaw07_NameRuns.j1 kj4 a0 a1 a2 false))) else (mapsheetslaw07_NameRuns.j1 kj4 a0 a1 a2 false))) else (mapsheetslaw07_NameRuns.j1 kj4 a0 a1 a2 false))) = some r := by rw [if_neg (show ¬ (false = true) by decide)] at H; exact H
    clear H
    have H := H1
    clear H1
    have HC11 := Aside0.mk H
    clear H
    go_upto_region 3 with (fail)
    go_cut [50] (fun v50 wc => ∃ (kq : Nat) (x50_10 : Bool), v50 = .bool x50_10 ∧ Aside0 (mapsheetslaw07_NameRuns.j1 kq a0 a1 a2 x50_10 = some r) ∧ Aside0 (kq ≤ kj4) ∧ Aside0 (Below w.heap.size w wc))
    case first =>
     have H := HC11.out
     clear HC11
     replace H := Option.bind_eq_some_iff.mp H
     obtain ⟨t277, A120, H⟩ := H
     replace H : (if t277 = 0 then ((name_Cmp.f kj4 a0 a1).bind fun t278 => (if t278 ≤ 0 then ((name_Cmp.f kj4 a1 a2).bind fun t279 => (if t279 ≤ 0 then ((name_Begins.f kj4 a0 a3).bind fun t280 => (if t280 = true then ((name_Begins.f kj4 a2 a3).bind fun t281 => (if t281 = true then ((name_Begins.f kj4 a1 a3).bind fun t282 => (mapsheetslaw07_NameRuns.j1 kj4 a0 a1 a2 (!t282))) else (mapsheetslaw07_NameRuns.j1 kj4 a0 a1 a2 false))) else (mapsheetslaw07_NameRuns.j1 kj4 a0 a1 a2 false))) else (mapsheetslaw07_NameRuns.j1 kj4 a0 a1 a2 false))) else (mapsheetslaw07_NameRuns.j1 kj4 a0 a1 a2 false))) else (mapsheetslaw07_NameRuns.j1 kj4 a0 a1 a2 false)) = some r := H
     have A12 := Aside0.mk A120
     clear A120
     by_cases c13 : t277 = 0
     ·rw [if_pos c13] at H
      have c13b0 : (t277 == 0) = true := beq_iff_eq.mpr c13
      have c13b1 : (t277 != 0) = false := bne_eq_false_iff_eq.mpr c13
      clear c13
      (first | rw [c13b0] | (simp only [i64_w, i32_w]; rw [c13b0]) | skip)
      replace H := Option.bind_eq_some_iff.mp H
      obtain ⟨t278, A140, H⟩ := H
      replace H : (if t278 ≤ 0 then ((name_Cmp.f kj4 a1 a2).bind fun t279 => (if t279 ≤ 0 then ((name_Begins.f kj4 a0 a3).bind fun t280 => (if t280 = true then ((name_Begins.f kj4 a2 a3).bind fun t281 => (if t281 = true then ((name_Begins.f kj4 a1 a3).bind fun t282 => (mapsheetslaw07_NameRuns.j1 kj4 a0 a1 a2 (!t282))) else (mapsheetslaw07_NameRuns.j1 kj4 a0 a1 a2 false))) else (mapsheetslaw07_NameRuns.j1 kj4 a0 a1 a2 false))) else (mapsheetslaw07_NameRuns.j1 kj4 a0 a1 a2 false))) else (mapsheetslaw07_NameRuns.j1 kj4 a0 a1 a2 false)) = some r := H
      have A14 := Aside0.mk A140
      clear A140
      by_cases c15 : t278 ≤ 0
      ·rw [if_pos c15] at H
       have c15b0 : decide (t278 ≤ 0) = true := decide_eq_true c15
       clear c15
       replace H := Option.bind_eq_some_iff.mp H
       obtain ⟨t279, A160, H⟩ := H
       replace H : (if t279 ≤ 0 then ((name_Begins.f kj4 a0 a3).bind fun t280 => (if t280 = true then ((name_Begins.f kj4 a2 a3).bind fun t281 => (if t281 = true then ((name_Begins.f kj4 a1 a3).bind fun t282 => (mapsheetslaw07_NameRuns.j1 kj4 a0 a1 a2 (!t282))) else (mapsheetslaw07_NameRuns.j1 kj4 a0 a1 a2 false))) else (mapsheetslaw07_NameRuns.j1 kj4 a0 a1 a2 false))) else (mapsheetslaw07_NameRuns.j1 kj4 a0 a1 a2 false)) = some r := H
       have A16 := Aside0.mk A160
       clear A160
       by_cases c17 : t279 ≤ 0
       ·rw [if_pos c17] at H
        have c17b0 : decide (t279 ≤ 0) = true := decide_eq_true c17
        clear c17
        replace H := Option.bind_eq_some_iff.mp H
        obtain ⟨t280, A180, H⟩ := H
        replace H : (if t280 = true then ((name_Begins.f kj4 a2 a3).bind fun t281 => (if t281 = true then ((name_Begins.f kj4 a1 a3).bind fun t282 => (mapsheetslaw07_NameRuns.j1 kj4 a0 a1 a2 (!t282))) else (mapsheetslaw07_NameRuns.j1 kj4 a0 a1 a2 false))) else (mapsheetslaw07_NameRuns.j1 kj4 a0 a1 a2 false)) = some r := H
        have A18 := Aside0.mk A180
        clear A180
        by_cases c19 : t280 = true
        ·subst c19
         have H1 : ((name_Begins.f kj4 a2 a3).bind fun t281 => (if t281 = true then ((name_Begins.f kj4 a1 a3).bind fun t282 => (mapsheetslaw07_NameRuns.j1 kj4 a0 a1 a2 (!t282))) else (mapsheetslaw07_NameRuns.j1 kj4 a0 a1 a2 false))) = some r := by rw [if_pos rfl] at H; exact H
         clear H
         have H := H1
         clear H1
         replace H := Option.bind_eq_some_iff.mp H
         obtain ⟨t281, A200, H⟩ := H
         replace H : (if t281 = true then ((name_Begins.f kj4 a1 a3).bind fun t282 => (mapsheetslaw07_NameRuns.j1 kj4 a0 a1 a2 (!t282))) else (mapsheetslaw07_NameRuns.j1 kj4 a0 a1 a2 false)) = some r := H
         have A20 := Aside0.mk A200
         clear A200
         by_cases c21 : t281 = true
         ·subst c21
          have H1 : ((name_Begins.f kj4 a1 a3).bind fun t282 => (mapsheetslaw07_NameRuns.j1 kj4 a0 a1 a2 (!t282))) = some r := by rw [if_pos rfl] at H; exact H
          clear H
          have H := H1
          clear H1
          replace H := Option.bind_eq_some_iff.mp H
          obtain ⟨t282, A220, H⟩ := H
          replace H : (mapsheetslaw07_NameRuns.j1 kj4 a0 a1 a2 (!t282)) = some r := H
          have A22 := Aside0.mk A220
          clear A220
          have H' := Aside0.mk H
          clear H
          go_wp2_with (first | ((with_reducible refine gate_callee (f := 14) rfl ?_); refine goesL_ (some 21) rfl rfl Try.func14 (by kernel_rfl) rfl #[.string a1] rfl (by (try simp only [List.map_toArray, List.map_cons, List.map_nil]); first | done | rfl | (simp only [List.length_drop, List.length_take]; rfl)) ?_; (with_reducible refine (name_Check.calls kj4 a1 t277 _ (ML.below HM.out (by repeat (first | (with_reducible first | exact HB.out | apply below_alloc | apply pw_below_drewN | apply below_drew1) | exact HB.out))) A12.out).mono ?_); rintro e w23 ⟨rfl, hb⟩; refine ⟨_, rfl, ?_⟩; have n0_ := Aside0.mk (below_step (by repeat (first | (with_reducible first | exact HB.out | apply below_alloc | apply pw_below_drewN | apply below_drew1) | exact HB.out)) hb); clear HB; have HB := n0_; clear n0_; (try clear hb); (try clear hb2); (try clear hk); (try clear hi)) | (go_at_call 17; (with_reducible refine (name_Cmp.calls kj4 a0 a1 t278 _ (ML.below HM.out (by repeat (first | (with_reducible first | exact HB.out | apply below_alloc | apply pw_below_drewN | apply below_drew1) | exact HB.out))) A14.out).mono ?_); rintro e w24 ⟨rfl, hb⟩; have n0_ := Aside0.mk (below_step (by repeat (first | (with_reducible first | exact HB.out | apply below_alloc | apply pw_below_drewN | apply below_drew1) | exact HB.out)) hb); clear HB; have HB := n0_; clear n0_; (try clear hb); (try clear hb2); (try clear hk); (try clear hi)) | (go_at_call 17; (with_reducible refine (name_Cmp.calls kj4 a1 a2 t279 _ (ML.below HM.out (by repeat (first | (with_reducible first | exact HB.out | apply below_alloc | apply pw_below_drewN | apply below_drew1) | exact HB.out))) A16.out).mono ?_); rintro e w25 ⟨rfl, hb⟩; have n0_ := Aside0.mk (below_step (by repeat (first | (with_reducible first | exact HB.out | apply below_alloc | apply pw_below_drewN | apply below_drew1) | exact HB.out)) hb); clear HB; have HB := n0_; clear n0_; (try clear hb); (try clear hb2); (try clear hk); (try clear hi)) | (go_at_call 19; (with_reducible refine (name_Begins.calls kj4 a0 a3 true _ (ML.below HM.out (by repeat (first | (with_reducible first | exact HB.out | apply below_alloc | apply pw_below_drewN | apply below_drew1) | exact HB.out))) A18.out).mono ?_); rintro e w26 ⟨rfl, hb⟩; have n0_ := Aside0.mk (below_step (by repeat (first | (with_reducible first | exact HB.out | apply below_alloc | apply pw_below_drewN | apply below_drew1) | exact HB.out)) hb); clear HB; have HB := n0_; clear n0_; (try clear hb); (try clear hb2); (try clear hk); (try clear hi)) | (go_at_call 19; (with_reducible refine (name_Begins.calls kj4 a2 a3 true _ (ML.below HM.out (by repeat (first | (with_reducible first | exact HB.out | apply below_alloc | apply pw_below_drewN | apply below_drew1) | exact HB.out))) A20.out).mono ?_); rintro e w27 ⟨rfl, hb⟩; have n0_ := Aside0.mk (below_step (by repeat (first | (with_reducible first | exact HB.out | apply below_alloc | apply pw_below_drewN | apply below_drew1) | exact HB.out)) hb); clear HB; have HB := n0_; clear n0_; (try clear hb); (try clear hb2); (try clear hk); (try clear hi)) | (go_at_call 19; (with_reducible refine (name_Begins.calls kj4 a1 a3 t282 _ (ML.below HM.out (by repeat (first | (with_reducible first | exact HB.out | apply below_alloc | apply pw_below_drewN | apply below_drew1) | exact HB.out))) A22.out).mono ?_); rintro e w28 ⟨rfl, hb⟩; have n0_ := Aside0.mk (below_step (by repeat (first | (with_reducible first | exact HB.out | apply below_alloc | apply pw_below_drewN | apply below_drew1) | exact HB.out)) hb); clear HB; have HB := n0_; clear n0_; (try clear hb); (try clear hb2); (try clear hk); (try clear hi)))
          go_meet
          case rel => exact ⟨_, (!t282), (by first | rfl | (simp; done) | (simp [*]; done)), H', ⟨by have := HJ4.out; first | omega | exact Nat.le_refl _⟩, ⟨by repeat (first | (with_reducible first | exact HB.out | apply below_alloc | apply pw_below_drewN | apply below_drew1) | exact HB.out)⟩⟩
         ·replace c21 := Bool.eq_false_iff.mpr c21
          subst c21
          have H1 : (mapsheetslaw07_NameRuns.j1 kj4 a0 a1 a2 false) = some r := by rw [if_neg (show ¬ (false = true) by decide)] at H; exact H
          clear H
          have H := H1
          clear H1
          have H' := Aside0.mk H
          clear H
          go_wp2_with (first | ((with_reducible refine gate_callee (f := 14) rfl ?_); refine goesL_ (some 21) rfl rfl Try.func14 (by kernel_rfl) rfl #[.string a1] rfl (by (try simp only [List.map_toArray, List.map_cons, List.map_nil]); first | done | rfl | (simp only [List.length_drop, List.length_take]; rfl)) ?_; (with_reducible refine (name_Check.calls kj4 a1 t277 _ (ML.below HM.out (by repeat (first | (with_reducible first | exact HB.out | apply below_alloc | apply pw_below_drewN | apply below_drew1) | exact HB.out))) A12.out).mono ?_); rintro e w29 ⟨rfl, hb⟩; refine ⟨_, rfl, ?_⟩; have n0_ := Aside0.mk (below_step (by repeat (first | (with_reducible first | exact HB.out | apply below_alloc | apply pw_below_drewN | apply below_drew1) | exact HB.out)) hb); clear HB; have HB := n0_; clear n0_; (try clear hb); (try clear hb2); (try clear hk); (try clear hi)) | (go_at_call 17; (with_reducible refine (name_Cmp.calls kj4 a0 a1 t278 _ (ML.below HM.out (by repeat (first | (with_reducible first | exact HB.out | apply below_alloc | apply pw_below_drewN | apply below_drew1) | exact HB.out))) A14.out).mono ?_); rintro e w30 ⟨rfl, hb⟩; have n0_ := Aside0.mk (below_step (by repeat (first | (with_reducible first | exact HB.out | apply below_alloc | apply pw_below_drewN | apply below_drew1) | exact HB.out)) hb); clear HB; have HB := n0_; clear n0_; (try clear hb); (try clear hb2); (try clear hk); (try clear hi)) | (go_at_call 17; (with_reducible refine (name_Cmp.calls kj4 a1 a2 t279 _ (ML.below HM.out (by repeat (first | (with_reducible first | exact HB.out | apply below_alloc | apply pw_below_drewN | apply below_drew1) | exact HB.out))) A16.out).mono ?_); rintro e w31 ⟨rfl, hb⟩; have n0_ := Aside0.mk (below_step (by repeat (first | (with_reducible first | exact HB.out | apply below_alloc | apply pw_below_drewN | apply below_drew1) | exact HB.out)) hb); clear HB; have HB := n0_; clear n0_; (try clear hb); (try clear hb2); (try clear hk); (try clear hi)) | (go_at_call 19; (with_reducible refine (name_Begins.calls kj4 a0 a3 true _ (ML.below HM.out (by repeat (first | (with_reducible first | exact HB.out | apply below_alloc | apply pw_below_drewN | apply below_drew1) | exact HB.out))) A18.out).mono ?_); rintro e w32 ⟨rfl, hb⟩; have n0_ := Aside0.mk (below_step (by repeat (first | (with_reducible first | exact HB.out | apply below_alloc | apply pw_below_drewN | apply below_drew1) | exact HB.out)) hb); clear HB; have HB := n0_; clear n0_; (try clear hb); (try clear hb2); (try clear hk); (try clear hi)) | (go_at_call 19; (with_reducible refine (name_Begins.calls kj4 a2 a3 false _ (ML.below HM.out (by repeat (first | (with_reducible first | exact HB.out | apply below_alloc | apply pw_below_drewN | apply below_drew1) | exact HB.out))) A20.out).mono ?_); rintro e w33 ⟨rfl, hb⟩; have n0_ := Aside0.mk (below_step (by repeat (first | (with_reducible first | exact HB.out | apply below_alloc | apply pw_below_drewN | apply below_drew1) | exact HB.out)) hb); clear HB; have HB := n0_; clear n0_; (try clear hb); (try clear hb2); (try clear hk); (try clear hi)))
          go_meet
          case rel => exact ⟨_, (false), (by first | rfl | (simp; done) | (simp [*]; done)), H', ⟨by have := HJ4.out; first | omega | exact Nat.le_refl _⟩, ⟨by repeat (first | (with_reducible first | exact HB.out | apply below_alloc | apply pw_below_drewN | apply below_drew1) | exact HB.out)⟩⟩
        ·replace c19 := Bool.eq_false_iff.mpr c19
         subst c19
         have H1 : (mapsheetslaw07_NameRuns.j1 kj4 a0 a1 a2 false) = some r := by rw [if_neg (show ¬ (false = true) by decide)] at H; exact H
         clear H
         have H := H1
         clear H1
         have H' := Aside0.mk H
         clear H
         go_wp2_with (first | ((with_reducible refine gate_callee (f := 14) rfl ?_); refine goesL_ (some 21) rfl rfl Try.func14 (by kernel_rfl) rfl #[.string a1] rfl (by (try simp only [List.map_toArray, List.map_cons, List.map_nil]); first | done | rfl | (simp only [List.length_drop, List.length_take]; rfl)) ?_; (with_reducible refine (name_Check.calls kj4 a1 t277 _ (ML.below HM.out (by repeat (first | (with_reducible first | exact HB.out | apply below_alloc | apply pw_below_drewN | apply below_drew1) | exact HB.out))) A12.out).mono ?_); rintro e w34 ⟨rfl, hb⟩; refine ⟨_, rfl, ?_⟩; have n0_ := Aside0.mk (below_step (by repeat (first | (with_reducible first | exact HB.out | apply below_alloc | apply pw_below_drewN | apply below_drew1) | exact HB.out)) hb); clear HB; have HB := n0_; clear n0_; (try clear hb); (try clear hb2); (try clear hk); (try clear hi)) | (go_at_call 17; (with_reducible refine (name_Cmp.calls kj4 a0 a1 t278 _ (ML.below HM.out (by repeat (first | (with_reducible first | exact HB.out | apply below_alloc | apply pw_below_drewN | apply below_drew1) | exact HB.out))) A14.out).mono ?_); rintro e w35 ⟨rfl, hb⟩; have n0_ := Aside0.mk (below_step (by repeat (first | (with_reducible first | exact HB.out | apply below_alloc | apply pw_below_drewN | apply below_drew1) | exact HB.out)) hb); clear HB; have HB := n0_; clear n0_; (try clear hb); (try clear hb2); (try clear hk); (try clear hi)) | (go_at_call 17; (with_reducible refine (name_Cmp.calls kj4 a1 a2 t279 _ (ML.below HM.out (by repeat (first | (with_reducible first | exact HB.out | apply below_alloc | apply pw_below_drewN | apply below_drew1) | exact HB.out))) A16.out).mono ?_); rintro e w36 ⟨rfl, hb⟩; have n0_ := Aside0.mk (below_step (by repeat (first | (with_reducible first | exact HB.out | apply below_alloc | apply pw_below_drewN | apply below_drew1) | exact HB.out)) hb); clear HB; have HB := n0_; clear n0_; (try clear hb); (try clear hb2); (try clear hk); (try clear hi)) | (go_at_call 19; (with_reducible refine (name_Begins.calls kj4 a0 a3 false _ (ML.below HM.out (by repeat (first | (with_reducible first | exact HB.out | apply below_alloc | apply pw_below_drewN | apply below_drew1) | exact HB.out))) A18.out).mono ?_); rintro e w37 ⟨rfl, hb⟩; have n0_ := Aside0.mk (below_step (by repeat (first | (with_reducible first | exact HB.out | apply below_alloc | apply pw_below_drewN | apply below_drew1) | exact HB.out)) hb); clear HB; have HB := n0_; clear n0_; (try clear hb); (try clear hb2); (try clear hk); (try clear hi)))
         go_meet
         case rel => exact ⟨_, (false), (by first | rfl | (simp; done) | (simp [*]; done)), H', ⟨by have := HJ4.out; first | omega | exact Nat.le_refl _⟩, ⟨by repeat (first | (with_reducible first | exact HB.out | apply below_alloc | apply pw_below_drewN | apply below_drew1) | exact HB.out)⟩⟩
       ·rw [if_neg c17] at H
        have c17b0 : decide (t279 ≤ 0) = false := decide_eq_false c17
        clear c17
        have H' := Aside0.mk H
        clear H
        go_wp2_with (first | ((with_reducible refine gate_callee (f := 14) rfl ?_); refine goesL_ (some 21) rfl rfl Try.func14 (by kernel_rfl) rfl #[.string a1] rfl (by (try simp only [List.map_toArray, List.map_cons, List.map_nil]); first | done | rfl | (simp only [List.length_drop, List.length_take]; rfl)) ?_; (with_reducible refine (name_Check.calls kj4 a1 t277 _ (ML.below HM.out (by repeat (first | (with_reducible first | exact HB.out | apply below_alloc | apply pw_below_drewN | apply below_drew1) | exact HB.out))) A12.out).mono ?_); rintro e w38 ⟨rfl, hb⟩; refine ⟨_, rfl, ?_⟩; have n0_ := Aside0.mk (below_step (by repeat (first | (with_reducible first | exact HB.out | apply below_alloc | apply pw_below_drewN | apply below_drew1) | exact HB.out)) hb); clear HB; have HB := n0_; clear n0_; (try clear hb); (try clear hb2); (try clear hk); (try clear hi)) | (go_at_call 17; (with_reducible refine (name_Cmp.calls kj4 a0 a1 t278 _ (ML.below HM.out (by repeat (first | (with_reducible first | exact HB.out | apply below_alloc | apply pw_below_drewN | apply below_drew1) | exact HB.out))) A14.out).mono ?_); rintro e w39 ⟨rfl, hb⟩; have n0_ := Aside0.mk (below_step (by repeat (first | (with_reducible first | exact HB.out | apply below_alloc | apply pw_below_drewN | apply below_drew1) | exact HB.out)) hb); clear HB; have HB := n0_; clear n0_; (try clear hb); (try clear hb2); (try clear hk); (try clear hi)) | (go_at_call 17; (with_reducible refine (name_Cmp.calls kj4 a1 a2 t279 _ (ML.below HM.out (by repeat (first | (with_reducible first | exact HB.out | apply below_alloc | apply pw_below_drewN | apply below_drew1) | exact HB.out))) A16.out).mono ?_); rintro e w40 ⟨rfl, hb⟩; have n0_ := Aside0.mk (below_step (by repeat (first | (with_reducible first | exact HB.out | apply below_alloc | apply pw_below_drewN | apply below_drew1) | exact HB.out)) hb); clear HB; have HB := n0_; clear n0_; (try clear hb); (try clear hb2); (try clear hk); (try clear hi)))
        go_meet
        case rel => exact ⟨_, (false), (by first | rfl | (simp; done) | (simp [*]; done)), H', ⟨by have := HJ4.out; first | omega | exact Nat.le_refl _⟩, ⟨by repeat (first | (with_reducible first | exact HB.out | apply below_alloc | apply pw_below_drewN | apply below_drew1) | exact HB.out)⟩⟩
      ·rw [if_neg c15] at H
       have c15b0 : decide (t278 ≤ 0) = false := decide_eq_false c15
       clear c15
       have H' := Aside0.mk H
       clear H
       go_wp2_with (first | ((with_reducible refine gate_callee (f := 14) rfl ?_); refine goesL_ (some 21) rfl rfl Try.func14 (by kernel_rfl) rfl #[.string a1] rfl (by (try simp only [List.map_toArray, List.map_cons, List.map_nil]); first | done | rfl | (simp only [List.length_drop, List.length_take]; rfl)) ?_; (with_reducible refine (name_Check.calls kj4 a1 t277 _ (ML.below HM.out (by repeat (first | (with_reducible first | exact HB.out | apply below_alloc | apply pw_below_drewN | apply below_drew1) | exact HB.out))) A12.out).mono ?_); rintro e w41 ⟨rfl, hb⟩; refine ⟨_, rfl, ?_⟩; have n0_ := Aside0.mk (below_step (by repeat (first | (with_reducible first | exact HB.out | apply below_alloc | apply pw_below_drewN | apply below_drew1) | exact HB.out)) hb); clear HB; have HB := n0_; clear n0_; (try clear hb); (try clear hb2); (try clear hk); (try clear hi)) | (go_at_call 17; (with_reducible refine (name_Cmp.calls kj4 a0 a1 t278 _ (ML.below HM.out (by repeat (first | (with_reducible first | exact HB.out | apply below_alloc | apply pw_below_drewN | apply below_drew1) | exact HB.out))) A14.out).mono ?_); rintro e w42 ⟨rfl, hb⟩; have n0_ := Aside0.mk (below_step (by repeat (first | (with_reducible first | exact HB.out | apply below_alloc | apply pw_below_drewN | apply below_drew1) | exact HB.out)) hb); clear HB; have HB := n0_; clear n0_; (try clear hb); (try clear hb2); (try clear hk); (try clear hi)))
       go_meet
       case rel => exact ⟨_, (false), (by first | rfl | (simp; done) | (simp [*]; done)), H', ⟨by have := HJ4.out; first | omega | exact Nat.le_refl _⟩, ⟨by repeat (first | (with_reducible first | exact HB.out | apply below_alloc | apply pw_below_drewN | apply below_drew1) | exact HB.out)⟩⟩
     ·rw [if_neg c13] at H
      have c13b0 : (t277 == 0) = false := beq_eq_false_iff_ne.mpr c13
      have c13b1 : (t277 != 0) = true := bne_iff_ne.mpr c13
      (first | rw [c13b0] | (simp only [i64_w, i32_w]; rw [c13b0]) | skip)
      have H' := Aside0.mk H
      clear H
      go_wp2_with (first | ((with_reducible refine gate_callee (f := 14) rfl ?_); refine goesL_ (some 21) rfl rfl Try.func14 (by kernel_rfl) rfl #[.string a1] rfl (by (try simp only [List.map_toArray, List.map_cons, List.map_nil]); first | done | rfl | (simp only [List.length_drop, List.length_take]; rfl)) ?_; (with_reducible refine (name_Check.calls kj4 a1 t277 _ (ML.below HM.out (by repeat (first | (with_reducible first | exact HB.out | apply below_alloc | apply pw_below_drewN | apply below_drew1) | exact HB.out))) A12.out).mono ?_); rintro e w43 ⟨rfl, hb⟩; refine ⟨_, rfl, ?_⟩; have n0_ := Aside0.mk (below_step (by repeat (first | (with_reducible first | exact HB.out | apply below_alloc | apply pw_below_drewN | apply below_drew1) | exact HB.out)) hb); clear HB; have HB := n0_; clear n0_; (try clear hb); (try clear hb2); (try clear hk); (try clear hi)))
      go_meet
      case rel => exact ⟨_, (false), (by first | rfl | (simp; done) | (simp [*]; done)), H', ⟨by have := HJ4.out; first | omega | exact Nat.le_refl _⟩, ⟨by repeat (first | (with_reducible first | exact HB.out | apply below_alloc | apply pw_below_drewN | apply below_drew1) | exact HB.out)⟩⟩
    case rest =>
     clear HC11
     try clear c1
     try clear c2
     try clear p2
     try clear c6
     try clear c7
     try clear c8
     try clear c10
     try clear c11
     try clear c13
     try clear c13b0
     try clear c13b1
     try clear c14
     try clear c15
     try clear c15b0
     try clear c17
     try clear c17b0
     try clear c19
     try clear c21
     try clear p2
     obtain ⟨kq, x50_10, rfl, HA, HJ10, HB⟩ := hcut
     cases kq with
     | zero => exact absurd HA.out (by simp [mapsheetslaw07_NameRuns.j1])
     | succ kj10 =>
      have H := HA.out
      clear HA
      simp only [mapsheetslaw07_NameRuns.j1] at H
      by_cases c44 : x50_10 = true
      ·subst c44
       have H1 : (none) = some r := by rw [if_pos rfl] at H; exact H
       clear H
       have H := H1
       clear H1
       exact absurd H (by simp)
      ·replace c44 := Bool.eq_false_iff.mpr c44
       subst c44
       have H1 : ((name_Begins.f kj10 a0 a1).bind fun t283 => (if t283 = true then ((name_Begins.f kj10 a1 a2).bind fun t284 => (if t284 = true then ((name_Begins.f kj10 a0 a2).bind fun t285 => (mapsheetslaw07_NameRuns.j2 kj10 a0 (!t285))) else (mapsheetslaw07_NameRuns.j2 kj10 a0 false))) else (mapsheetslaw07_NameRuns.j2 kj10 a0 false))) = some r := by rw [if_neg (show ¬ (false = true) by decide)] at H; exact H
       clear H
       have H := H1
       clear H1
       have HC45 := Aside0.mk H
       clear H
       go_upto_region 5 with (fail)
       go_cut [64] (fun v64 wc => ∃ (kq : Nat) (x64_44 : Bool), v64 = .bool x64_44 ∧ Aside0 (mapsheetslaw07_NameRuns.j2 kq a0 x64_44 = some r) ∧ Aside0 (kq ≤ kj10) ∧ Aside0 (Below w.heap.size w wc))
       case first =>
        have H := HC45.out
        clear HC45
        replace H := Option.bind_eq_some_iff.mp H
        obtain ⟨t283, A460, H⟩ := H
        replace H : (if t283 = true then ((name_Begins.f kj10 a1 a2).bind fun t284 => (if t284 = true then ((name_Begins.f kj10 a0 a2).bind fun t285 => (mapsheetslaw07_NameRuns.j2 kj10 a0 (!t285))) else (mapsheetslaw07_NameRuns.j2 kj10 a0 false))) else (mapsheetslaw07_NameRuns.j2 kj10 a0 false)) = some r := H
        have A46 := Aside0.mk A460
        clear A460
        by_cases c47 : t283 = true
        ·subst c47
         have H1 : ((name_Begins.f kj10 a1 a2).bind fun t284 => (if t284 = true then ((name_Begins.f kj10 a0 a2).bind fun t285 => (mapsheetslaw07_NameRuns.j2 kj10 a0 (!t285))) else (mapsheetslaw07_NameRuns.j2 kj10 a0 false))) = some r := by rw [if_pos rfl] at H; exact H
         clear H
         have H := H1
         clear H1
         replace H := Option.bind_eq_some_iff.mp H
         obtain ⟨t284, A480, H⟩ := H
         replace H : (if t284 = true then ((name_Begins.f kj10 a0 a2).bind fun t285 => (mapsheetslaw07_NameRuns.j2 kj10 a0 (!t285))) else (mapsheetslaw07_NameRuns.j2 kj10 a0 false)) = some r := H
         have A48 := Aside0.mk A480
         clear A480
         by_cases c49 : t284 = true
         ·subst c49
          have H1 : ((name_Begins.f kj10 a0 a2).bind fun t285 => (mapsheetslaw07_NameRuns.j2 kj10 a0 (!t285))) = some r := by rw [if_pos rfl] at H; exact H
          clear H
          have H := H1
          clear H1
          replace H := Option.bind_eq_some_iff.mp H
          obtain ⟨t285, A500, H⟩ := H
          replace H : (mapsheetslaw07_NameRuns.j2 kj10 a0 (!t285)) = some r := H
          have A50 := Aside0.mk A500
          clear A500
          have H' := Aside0.mk H
          clear H
          go_wp2_with (first | ((with_reducible refine gate_callee (f := 19) rfl ?_); refine goesL_ (some 53) rfl rfl Try.func19 (by kernel_rfl) rfl #[.string a0, .string a1] rfl (by (try simp only [List.map_toArray, List.map_cons, List.map_nil]); first | done | rfl | (simp only [List.length_drop, List.length_take]; rfl)) ?_; (with_reducible refine (name_Begins.calls kj10 a0 a1 true _ (ML.below HM.out (by repeat (first | (with_reducible first | exact HB.out | apply below_alloc | apply pw_below_drewN | apply below_drew1) | exact HB.out))) A46.out).mono ?_); rintro e w51 ⟨rfl, hb⟩; refine ⟨_, rfl, ?_⟩; have n0_ := Aside0.mk (below_step (by repeat (first | (with_reducible first | exact HB.out | apply below_alloc | apply pw_below_drewN | apply below_drew1) | exact HB.out)) hb); clear HB; have HB := n0_; clear n0_; (try clear hb); (try clear hb2); (try clear hk); (try clear hi)) | (go_at_call 19; (with_reducible refine (name_Begins.calls kj10 a1 a2 true _ (ML.below HM.out (by repeat (first | (with_reducible first | exact HB.out | apply below_alloc | apply pw_below_drewN | apply below_drew1) | exact HB.out))) A48.out).mono ?_); rintro e w52 ⟨rfl, hb⟩; have n0_ := Aside0.mk (below_step (by repeat (first | (with_reducible first | exact HB.out | apply below_alloc | apply pw_below_drewN | apply below_drew1) | exact HB.out)) hb); clear HB; have HB := n0_; clear n0_; (try clear hb); (try clear hb2); (try clear hk); (try clear hi)) | (go_at_call 19; (with_reducible refine (name_Begins.calls kj10 a0 a2 t285 _ (ML.below HM.out (by repeat (first | (with_reducible first | exact HB.out | apply below_alloc | apply pw_below_drewN | apply below_drew1) | exact HB.out))) A50.out).mono ?_); rintro e w53 ⟨rfl, hb⟩; have n0_ := Aside0.mk (below_step (by repeat (first | (with_reducible first | exact HB.out | apply below_alloc | apply pw_below_drewN | apply below_drew1) | exact HB.out)) hb); clear HB; have HB := n0_; clear n0_; (try clear hb); (try clear hb2); (try clear hk); (try clear hi)))
          go_meet
          case rel => exact ⟨_, (!t285), (by first | rfl | (simp; done) | (simp [*]; done)), H', ⟨by have := HJ4.out; have := HJ10.out; first | omega | exact Nat.le_refl _⟩, ⟨by repeat (first | (with_reducible first | exact HB.out | apply below_alloc | apply pw_below_drewN | apply below_drew1) | exact HB.out)⟩⟩
         ·replace c49 := Bool.eq_false_iff.mpr c49
          subst c49
          have H1 : (mapsheetslaw07_NameRuns.j2 kj10 a0 false) = some r := by rw [if_neg (show ¬ (false = true) by decide)] at H; exact H
          clear H
          have H := H1
          clear H1
          have H' := Aside0.mk H
          clear H
          go_wp2_with (first | ((with_reducible refine gate_callee (f := 19) rfl ?_); refine goesL_ (some 53) rfl rfl Try.func19 (by kernel_rfl) rfl #[.string a0, .string a1] rfl (by (try simp only [List.map_toArray, List.map_cons, List.map_nil]); first | done | rfl | (simp only [List.length_drop, List.length_take]; rfl)) ?_; (with_reducible refine (name_Begins.calls kj10 a0 a1 true _ (ML.below HM.out (by repeat (first | (with_reducible first | exact HB.out | apply below_alloc | apply pw_below_drewN | apply below_drew1) | exact HB.out))) A46.out).mono ?_); rintro e w54 ⟨rfl, hb⟩; refine ⟨_, rfl, ?_⟩; have n0_ := Aside0.mk (below_step (by repeat (first | (with_reducible first | exact HB.out | apply below_alloc | apply pw_below_drewN | apply below_drew1) | exact HB.out)) hb); clear HB; have HB := n0_; clear n0_; (try clear hb); (try clear hb2); (try clear hk); (try clear hi)) | (go_at_call 19; (with_reducible refine (name_Begins.calls kj10 a1 a2 false _ (ML.below HM.out (by repeat (first | (with_reducible first | exact HB.out | apply below_alloc | apply pw_below_drewN | apply below_drew1) | exact HB.out))) A48.out).mono ?_); rintro e w55 ⟨rfl, hb⟩; have n0_ := Aside0.mk (below_step (by repeat (first | (with_reducible first | exact HB.out | apply below_alloc | apply pw_below_drewN | apply below_drew1) | exact HB.out)) hb); clear HB; have HB := n0_; clear n0_; (try clear hb); (try clear hb2); (try clear hk); (try clear hi)))
          go_meet
          case rel => exact ⟨_, (false), (by first | rfl | (simp; done) | (simp [*]; done)), H', ⟨by have := HJ4.out; have := HJ10.out; first | omega | exact Nat.le_refl _⟩, ⟨by repeat (first | (with_reducible first | exact HB.out | apply below_alloc | apply pw_below_drewN | apply below_drew1) | exact HB.out)⟩⟩
        ·replace c47 := Bool.eq_false_iff.mpr c47
         subst c47
         have H1 : (mapsheetslaw07_NameRuns.j2 kj10 a0 false) = some r := by rw [if_neg (show ¬ (false = true) by decide)] at H; exact H
         clear H
         have H := H1
         clear H1
         have H' := Aside0.mk H
         clear H
         go_wp2_with (first | ((with_reducible refine gate_callee (f := 19) rfl ?_); refine goesL_ (some 53) rfl rfl Try.func19 (by kernel_rfl) rfl #[.string a0, .string a1] rfl (by (try simp only [List.map_toArray, List.map_cons, List.map_nil]); first | done | rfl | (simp only [List.length_drop, List.length_take]; rfl)) ?_; (with_reducible refine (name_Begins.calls kj10 a0 a1 false _ (ML.below HM.out (by repeat (first | (with_reducible first | exact HB.out | apply below_alloc | apply pw_below_drewN | apply below_drew1) | exact HB.out))) A46.out).mono ?_); rintro e w56 ⟨rfl, hb⟩; refine ⟨_, rfl, ?_⟩; have n0_ := Aside0.mk (below_step (by repeat (first | (with_reducible first | exact HB.out | apply below_alloc | apply pw_below_drewN | apply below_drew1) | exact HB.out)) hb); clear HB; have HB := n0_; clear n0_; (try clear hb); (try clear hb2); (try clear hk); (try clear hi)))
         go_meet
         case rel => exact ⟨_, (false), (by first | rfl | (simp; done) | (simp [*]; done)), H', ⟨by have := HJ4.out; have := HJ10.out; first | omega | exact Nat.le_refl _⟩, ⟨by repeat (first | (with_reducible first | exact HB.out | apply below_alloc | apply pw_below_drewN | apply below_drew1) | exact HB.out)⟩⟩
       case rest =>
        clear HC45
        try clear c1
        try clear c2
        try clear p2
        try clear c4
        try clear c6
        try clear c7
        try clear c8
        try clear c10
        try clear c11
        try clear c13
        try clear c13b0
        try clear c13b1
        try clear c14
        try clear c15
        try clear c15b0
        try clear c17
        try clear c17b0
        try clear c19
        try clear c21
        try clear c44
        try clear c47
        try clear c49
        try clear p2
        obtain ⟨kq, x64_44, rfl, HA, HJ44, HB⟩ := hcut
        cases kq with
        | zero => exact absurd HA.out (by simp [mapsheetslaw07_NameRuns.j2])
        | succ kj44 =>
         have H := HA.out
         clear HA
         simp only [mapsheetslaw07_NameRuns.j2] at H
         by_cases c57 : x64_44 = true
         ·subst c57
          have H1 : (none) = some r := by rw [if_pos rfl] at H; exact H
          clear H
          have H := H1
          clear H1
          exact absurd H (by simp)
         ·replace c57 := Bool.eq_false_iff.mpr c57
          subst c57
          have H1 : ((mapsheetslaw07_awake.f kj44).bind fun t286 => (if t286 = true then ((name_Begins.f kj44 a0 a0).bind fun t287 => ((name_Check.f kj44 a0).bind fun t288 => (if (t287 == (t288 == 0)) = true then ((name_Begins.f kj44 a0 (⟨#[]⟩ : ByteArray)).bind fun t289 => ((name_Check.f kj44 a0).bind fun t290 => (some (t289 == (t288 == 0))))) else (none)))) else (none))) = some r := by rw [if_neg (show ¬ (false = true) by decide)] at H; exact H
          clear H
          have H := H1
          clear H1
          replace H := Option.bind_eq_some_iff.mp H
          obtain ⟨t286, A580, H⟩ := H
          replace H : (if t286 = true then ((name_Begins.f kj44 a0 a0).bind fun t287 => ((name_Check.f kj44 a0).bind fun t288 => (if (t287 == (t288 == 0)) = true then ((name_Begins.f kj44 a0 (⟨#[]⟩ : ByteArray)).bind fun t289 => ((name_Check.f kj44 a0).bind fun t290 => (some (t289 == (t288 == 0))))) else (none)))) else (none)) = some r := H
          have A58 := Aside0.mk A580
          clear A580
          by_cases c59 : t286 = true
          ·subst c59
           have H1 : ((name_Begins.f kj44 a0 a0).bind fun t287 => ((name_Check.f kj44 a0).bind fun t288 => (if (t287 == (t288 == 0)) = true then ((name_Begins.f kj44 a0 (⟨#[]⟩ : ByteArray)).bind fun t289 => ((name_Check.f kj44 a0).bind fun t290 => (some (t289 == (t288 == 0))))) else (none)))) = some r := by rw [if_pos rfl] at H; exact H
           clear H
           have H := H1
           clear H1
           replace H := Option.bind_eq_some_iff.mp H
           obtain ⟨t287, A600, H⟩ := H
           replace H : ((name_Check.f kj44 a0).bind fun t288 => (if (t287 == (t288 == 0)) = true then ((name_Begins.f kj44 a0 (⟨#[]⟩ : ByteArray)).bind fun t289 => ((name_Check.f kj44 a0).bind fun t290 => (some (t289 == (t288 == 0))))) else (none))) = some r := H
           have A60 := Aside0.mk A600
           clear A600
           replace H := Option.bind_eq_some_iff.mp H
           obtain ⟨t288, A610, H⟩ := H
           replace H : (if (t287 == (t288 == 0)) = true then ((name_Begins.f kj44 a0 (⟨#[]⟩ : ByteArray)).bind fun t289 => ((name_Check.f kj44 a0).bind fun t290 => (some (t289 == (t288 == 0))))) else (none)) = some r := H
           have A61 := Aside0.mk A610
           clear A610
           by_cases c62 : (t287 == (t288 == 0)) = true
           ·rw [if_pos c62] at H
            have c62b0 : (t287 == (t288 == 0)) = true := c62
            (try (have c62b1 : decide (t287 = (t288 == 0)) = true := by simpa using c62))
            (try (have c62b2 : (t287 == (t288 == 0)) = true := by simpa using c62))
            clear c62
            replace H := Option.bind_eq_some_iff.mp H
            obtain ⟨t289, A630, H⟩ := H
            replace H : ((name_Check.f kj44 a0).bind fun t290 => (some (t289 == (t288 == 0)))) = some r := H
            have A63 := Aside0.mk A630
            clear A630
            replace H := Option.bind_eq_some_iff.mp H
            obtain ⟨t290, A640, H⟩ := H
            replace H : (some (t289 == (t288 == 0))) = some r := H
            have A64 := Aside0.mk A640
            clear A640
            obtain rfl := Option.some.inj H
            go_wp2_with (first | ((with_reducible refine gate_callee (f := 11) rfl ?_); refine goesL_ (some 65) rfl rfl Try.func11 (by kernel_rfl) rfl #[] rfl (by (try simp only [List.map_toArray, List.map_cons, List.map_nil]); first | done | rfl | (simp only [List.length_drop, List.length_take]; rfl)) ?_; (with_reducible refine (mapsheetslaw07_awake.calls kj44  true _ (ML.below HM.out (by repeat (first | (with_reducible first | exact HB.out | apply below_alloc | apply pw_below_drewN | apply below_drew1) | exact HB.out))) A58.out).mono ?_); rintro e w65 ⟨rfl, hb⟩; refine ⟨_, rfl, ?_⟩; have n0_ := Aside0.mk (below_step (by repeat (first | (with_reducible first | exact HB.out | apply below_alloc | apply pw_below_drewN | apply below_drew1) | exact HB.out)) hb); clear HB; have HB := n0_; clear n0_; (try clear hb); (try clear hb2); (try clear hk); (try clear hi)) | (go_at_call 19; (with_reducible refine (name_Begins.calls kj44 a0 a0 t287 _ (ML.below HM.out (by repeat (first | (with_reducible first | exact HB.out | apply below_alloc | apply pw_below_drewN | apply below_drew1) | exact HB.out))) A60.out).mono ?_); rintro e w66 ⟨rfl, hb⟩; have n0_ := Aside0.mk (below_step (by repeat (first | (with_reducible first | exact HB.out | apply below_alloc | apply pw_below_drewN | apply below_drew1) | exact HB.out)) hb); clear HB; have HB := n0_; clear n0_; (try clear hb); (try clear hb2); (try clear hk); (try clear hi)) | (go_at_call 14; (with_reducible refine (name_Check.calls kj44 a0 t288 _ (ML.below HM.out (by repeat (first | (with_reducible first | exact HB.out | apply below_alloc | apply pw_below_drewN | apply below_drew1) | exact HB.out))) A61.out).mono ?_); rintro e w67 ⟨rfl, hb⟩; have n0_ := Aside0.mk (below_step (by repeat (first | (with_reducible first | exact HB.out | apply below_alloc | apply pw_below_drewN | apply below_drew1) | exact HB.out)) hb); clear HB; have HB := n0_; clear n0_; (try clear hb); (try clear hb2); (try clear hk); (try clear hi)) | (go_at_call 19; (with_reducible refine (name_Begins.calls kj44 a0 (⟨#[]⟩ : ByteArray) t289 _ (ML.below HM.out (by repeat (first | (with_reducible first | exact HB.out | apply below_alloc | apply pw_below_drewN | apply below_drew1) | exact HB.out))) A63.out).mono ?_); rintro e w68 ⟨rfl, hb⟩; have n0_ := Aside0.mk (below_step (by repeat (first | (with_reducible first | exact HB.out | apply below_alloc | apply pw_below_drewN | apply below_drew1) | exact HB.out)) hb); clear HB; have HB := n0_; clear n0_; (try clear hb); (try clear hb2); (try clear hk); (try clear hi)) | (go_at_call 14; (with_reducible refine (name_Check.calls kj44 a0 t290 _ (ML.below HM.out (by repeat (first | (with_reducible first | exact HB.out | apply below_alloc | apply pw_below_drewN | apply below_drew1) | exact HB.out))) A64.out).mono ?_); rintro e w69 ⟨rfl, hb⟩; have n0_ := Aside0.mk (below_step (by repeat (first | (with_reducible first | exact HB.out | apply below_alloc | apply pw_below_drewN | apply below_drew1) | exact HB.out)) hb); clear HB; have HB := n0_; clear n0_; (try clear hb); (try clear hb2); (try clear hk); (try clear hi)))
            go_ret
            exact ⟨by first | rfl | (simp [errW_none, errW_some] <;> rfl) | (simp [*, errW_none, errW_some] <;> rfl), by repeat (first | (with_reducible first | exact HB.out | apply below_alloc | apply pw_below_drewN | apply below_drew1) | exact HB.out)⟩
           ·rw [if_neg c62] at H
            exact absurd H (by simp)
          ·replace c59 := Bool.eq_false_iff.mpr c59
           subst c59
           have H1 : (none) = some r := by rw [if_neg (show ¬ (false = true) by decide)] at H; exact H
           clear H
           have H := H1
           clear H1
           exact absurd H (by simp)

/-- THE ONE PURE STATEMENT of mapsheetslaw07_NameRuns: yours. -/
def mapsheetslaw07_NameRuns.Pure : Prop := ∀ (a0 : ByteArray) (a1 : ByteArray) (a2 : ByteArray) (a3 : ByteArray), a0.size ≤ 140737488351232 → a1.size ≤ 140737488351232 → a2.size ≤ 140737488351232 → a3.size ≤ 140737488351232 → ∃ k, mapsheetslaw07_NameRuns.f k a0 a1 a2 a3 = some true
theorem mapsheetslaw07_NameRuns.walk (P : mapsheetslaw07_NameRuns.Pure) (a0 : ByteArray) (a1 : ByteArray) (a2 : ByteArray) (a3 : ByteArray) (w : World) (w0 : a0.size ≤ 140737488351232) (w1 : a1.size ≤ 140737488351232) (w2 : a2.size ≤ 140737488351232) (w3 : a3.size ≤ 140737488351232) (hml : ML w) :
  Calls Try.prog 6 #[.string a0, .string a1, .string a2, .string a3] w fun e w' => e = .returned (.bool true) ∧ Below w.heap.size w w' := by
 obtain ⟨k, h⟩ := P a0 a1 a2 a3 w0 w1 w2 w3
 refine (mapsheetslaw07_NameRuns.calls k a0 a1 a2 a3 true w hml h).mono ?_
 rintro e w' ⟨rfl, hd⟩
 exact ⟨rfl, hd⟩

end Go.Proofs.Ytijkaeonihgcfaa.P
