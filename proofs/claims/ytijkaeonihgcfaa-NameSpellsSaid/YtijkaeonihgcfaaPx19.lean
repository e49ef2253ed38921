-- Written by wip/tools/xprint.py (this session's program, over the kit's print.py) for this seat.
import Derived.Test.YtijkaeonihgcfaaPx0
import Derived.Test.YtijkaeonihgcfaaPx1
import Derived.Test.YtijkaeonihgcfaaPx2
import Derived.Test.YtijkaeonihgcfaaPx3
import Derived.Test.YtijkaeonihgcfaaPx4
import Derived.Test.YtijkaeonihgcfaaPx12
namespace Go.Proofs.Ytijkaeonihgcfaa.P
open Go.RowKit Go.Proofs.YtijkaeonihgcfaaW.PrintWords Go.Proofs.YtijkaeonihgcfaaW.PrintLast Go.Proofs.YtijkaeonihgcfaaW.PrintMore
attribute [local go_sem] max2_int min2_int max_two min_two max_three min_three max_four min_four   -- for this text's walks alone
set_option linter.unusedVariables false
set_option linter.unusedSimpArgs false

/-! ### mapsheetslaw07_NameSpells: function 9 -/
def mapsheetslaw07_NameSpells.j0 : Nat → Int → ByteArray → Bool → Option (Bool)
 | 0, _, _, _ => none
 | k + 1, x0, x1, x19 => if x19 = true then ((mapsheetslaw07_awake.f k).bind fun t333 => (some t333)) else ((some (([(⟨#[32]⟩ : ByteArray), (⟨#[39]⟩ : ByteArray), (⟨#[45]⟩ : ByteArray), (⟨#[46]⟩ : ByteArray), (⟨#[40]⟩ : ByteArray), (⟨#[41]⟩ : ByteArray), (⟨#[]⟩ : ByteArray)] : List ByteArray) : List ByteArray)).bind fun y334 => (if 0 ≤ (Int.tmod (wrap64 (x0)) 7) then (if (Int.tmod (wrap64 (x0)) 7) < (y334.length : Int) then (if 1 + (rdOf ByteArray.empty y334 (Int.tmod (wrap64 (x0)) 7)).size ≤ 9223372036854775807 then (if ((⟨#[65]⟩ : ByteArray) ++ (rdOf ByteArray.empty y334 (Int.tmod (wrap64 (x0)) 7))).size + 1 ≤ 9223372036854775807 then (if (((⟨#[65]⟩ : ByteArray) ++ (rdOf ByteArray.empty y334 (Int.tmod (wrap64 (x0)) 7))) ++ (⟨#[98]⟩ : ByteArray)).size + x1.size ≤ 9223372036854775807 then ((name_Key.f k ((((⟨#[65]⟩ : ByteArray) ++ (rdOf ByteArray.empty y334 (Int.tmod (wrap64 (x0)) 7))) ++ (⟨#[98]⟩ : ByteArray)) ++ x1)).bind fun bt338 => (if 2 + x1.size ≤ 9223372036854775807 then ((name_Key.f k ((⟨#[97, 98]⟩ : ByteArray) ++ x1)).bind fun bt342 => ((mapsheetslaw07_awake.f k).bind fun t346 => (if t346 = true then (if bt338.2 = 0 then (if bt342.2 = 0 then ((mapsheetsref04_Same.f k bt338.1 bt342.1).bind fun t347 => (if t347 = true then ((name_Begins.f k ((((⟨#[65]⟩ : ByteArray) ++ (rdOf ByteArray.empty y334 (Int.tmod (wrap64 (x0)) 7))) ++ (⟨#[98]⟩ : ByteArray)) ++ x1) ((⟨#[97, 98]⟩ : ByteArray) ++ x1)).bind fun t348 => (if t348 = true then ((name_Begins.f k ((⟨#[97, 98]⟩ : ByteArray) ++ x1) ((((⟨#[65]⟩ : ByteArray) ++ (rdOf ByteArray.empty y334 (Int.tmod (wrap64 (x0)) 7))) ++ (⟨#[98]⟩ : ByteArray)) ++ x1)).bind fun t349 => (some t349)) else (none))) else (none))) else (none)) else (none)) else (none)))) else (none))) else (none)) else (none)) else (none)) else (none)) else (none)))
def mapsheetslaw07_NameSpells.f (k : Nat) (a0 : Int) (a1 : ByteArray) : Option (Bool) := if (a1.size : Int) > 30 then (mapsheetslaw07_NameSpells.j0 k a0 a1 true) else (if 2 + a1.size ≤ 9223372036854775807 then ((name_Check.f k ((⟨#[97, 98]⟩ : ByteArray) ++ a1)).bind fun t332 => (mapsheetslaw07_NameSpells.j0 k a0 a1 (t332 != 0))) else (none))
theorem mapsheetslaw07_NameSpells.mono_l : ∀ k, (∀ y0 y1 y2, LeO (mapsheetslaw07_NameSpells.j0 k y0 y1 y2) (mapsheetslaw07_NameSpells.j0 (k + 1) y0 y1 y2))
 | 0 => fun _ _ _ r h => by simp [mapsheetslaw07_NameSpells.j0] at h
 | k + 1 => by
  have ih0 := mapsheetslaw07_NameSpells.mono_l k
  ·intro y0 y1 y2
   unfold mapsheetslaw07_NameSpells.j0
   repeat' first
   | (with_reducible exact ih0 _ _ _)
   | (with_reducible exact mapsheetslaw07_awake.mono _)
   | (with_reducible exact mapsheetsref04_Same.mono _ _ _)
   | (with_reducible exact name_Begins.mono _ _ _)
   | (with_reducible exact name_Check.mono _ _)
   | (with_reducible exact name_Key.mono _ _)
   | (with_reducible exact LeO.refl _)
   | (with_reducible exact LeO.none _)
   | (with_reducible refine LeO.ite ?_ ?_)
   | (with_reducible refine LeO.bind ?_ (fun _ => ?_))
   | exact ih0 _ _ _
   | exact mapsheetslaw07_awake.mono _
   | exact mapsheetsref04_Same.mono _ _ _
   | exact name_Begins.mono _ _ _
   | exact name_Check.mono _ _
   | exact name_Key.mono _ _
   | exact LeO.none _
   | refine LeO.ite ?_ ?_
   | refine LeO.bind ?_ (fun _ => ?_)
theorem mapsheetslaw07_NameSpells.mono : ∀ a0 a1 k, LeO (mapsheetslaw07_NameSpells.f k a0 a1) (mapsheetslaw07_NameSpells.f (k + 1) a0 a1) := by
 intro a0 a1 k
 have ih0 := mapsheetslaw07_NameSpells.mono_l k
 unfold mapsheetslaw07_NameSpells.f
 repeat' first
   | (with_reducible exact ih0 _ _ _)
   | (with_reducible exact mapsheetslaw07_awake.mono _)
   | (with_reducible exact mapsheetsref04_Same.mono _ _ _)
   | (with_reducible exact name_Begins.mono _ _ _)
   | (with_reducible exact name_Check.mono _ _)
   | (with_reducible exact name_Key.mono _ _)
   | (with_reducible exact LeO.refl _)
   | (with_reducible exact LeO.none _)
   | (with_reducible refine LeO.ite ?_ ?_)
   | (with_reducible refine LeO.bind ?_ (fun _ => ?_))
   | exact ih0 _ _ _
   | exact mapsheetslaw07_awake.mono _
   | exact mapsheetsref04_Same.mono _ _ _
   | exact name_Begins.mono _ _ _
   | exact name_Check.mono _ _
   | exact name_Key.mono _ _
   | exact LeO.none _
   | refine LeO.ite ?_ ?_
   | refine LeO.bind ?_ (fun _ => ?_)
set_option maxHeartbeats 8000000 in
set_option maxRecDepth 100000 in
theorem mapsheetslaw07_NameSpells.calls (k : Nat) (a0 : Int) (a1 : ByteArray) (r : Bool) (w : World) (hml : ML w) (h : mapsheetslaw07_NameSpells.f k a0 a1 = some r) :
  Calls Try.prog 9 #[.int .u8 a0, .string a1] w fun e w' => e = .returned (.bool r) ∧ Below w.heap.size w w' := by
 have HM := Aside0.mk hml
 clear hml
 have HB := Aside0.mk (Below.refl w.heap.size w)
 have H : (if (a1.size : Int) > 30 then (mapsheetslaw07_NameSpells.j0 k a0 a1 true) else (if 2 + a1.size ≤ 9223372036854775807 then ((name_Check.f k ((⟨#[97, 98]⟩ : ByteArray) ++ a1)).bind fun t332 => (mapsheetslaw07_NameSpells.j0 k a0 a1 (t332 != 0))) else (none))) = some r := h
 clear h
 have HC3 := Aside0.mk H
 clear H
 go_enter Try.func9, Try.ntmps9
 go_upto_region 1 with (fail)
 go_cut [19] (fun v19 wc => ∃ (kq : Nat) (x19_2 : Bool), v19 = .bool x19_2 ∧ Aside0 (mapsheetslaw07_NameSpells.j0 kq a0 a1 x19_2 = some r) ∧ Aside0 (kq ≤ k) ∧ Aside0 (Below w.heap.size w wc))
 case first =>
  have H := HC3.out
  clear HC3
  by_cases c4 : (a1.size : Int) > 30
  ·rw [if_pos c4] at H
   have c4b0 : decide (30 < (a1.size : Int)) = true := decide_eq_true c4
   have c4b1 : decide (30 < a1.size) = true := decide_eq_true (by omega)
   clear c4
   (first | rw [c4b0] | (simp only [i64_w, i32_w]; rw [c4b0]) | skip)
   have H' := Aside0.mk H
   clear H
   go_wp2
   go_meet
   case rel => exact ⟨_, (true), (by first | rfl | (simp; done) | (simp [*]; done)), H', ⟨by first | omega | exact Nat.le_refl _⟩, ⟨by repeat (first | (with_reducible first | exact HB.out | apply below_alloc | apply pw_below_drewN | apply below_drew1) | exact HB.out)⟩⟩
  ·rw [if_neg c4] at H
   have c4b0 : decide (30 < (a1.size : Int)) = false := decide_eq_false c4
   have c4b1 : decide (30 < a1.size) = false := decide_eq_false (by omega)
   clear c4
   (first | rw [c4b0] | (simp only [i64_w, i32_w]; rw [c4b0]) | skip)
   by_cases c5 : 2 + a1.size ≤ 9223372036854775807
   ·rw [if_pos c5] at H
    have c5b0 := eq_true c5
    have c5b1 : decide (2 + a1.size ≤ 9223372036854775807) = true := decide_eq_true c5
    try have c5b2 : (9223372036854775807 < 2 + a1.size) = False := eq_false (Nat.not_lt.2 c5)
    replace H := Option.bind_eq_some_iff.mp H
    obtain ⟨t332, A60, H⟩ := H
    replace H : (mapsheetslaw07_NameSpells.j0 k a0 a1 (t332 != 0)) = some r := H
    have A6 := Aside0.mk A60
    clear A60
    have H' := Aside0.mk H
    clear H
    go_wp2_with (first | (go_at_call 14; (with_reducible refine (name_Check.calls k ((⟨#[97, 98]⟩ : ByteArray) ++ a1) t332 _ (ML.below HM.out (by repeat (first | (with_reducible first | exact HB.out | apply below_alloc | apply pw_below_drewN | apply below_drew1) | exact HB.out))) A6.out).mono ?_); rintro e w7 ⟨rfl, hb⟩; have n0_ := Aside0.mk (below_step (by repeat (first | (with_reducible first | exact HB.out | apply below_alloc | apply pw_below_drewN | apply below_drew1) | exact HB.out)) hb); clear HB; have HB := n0_; clear n0_; (try clear hb); (try clear hb2); (try clear hk); (try clear hi)))
    go_meet
    case rel => exact ⟨_, ((t332 != 0)), (by first | rfl | (simp; done) | (simp [*]; done)), H', ⟨by first | omega | exact Nat.le_refl _⟩, ⟨by repeat (first | (with_reducible first | exact HB.out | apply below_alloc | apply pw_below_drewN | apply below_drew1) | exact HB.out)⟩⟩
   ·rw [if_neg c5] at H
    exact absurd H (by simp)
 case rest =>
  clear HC3
  try clear p2
  try clear c4
  try clear c4b0
  try clear c4b1
  try clear c5
  try clear c5b0
  try clear c5b1
  try clear c5b2
  obtain ⟨kq, x19_2, rfl, HA, HJ2, HB⟩ := hcut
  cases kq with
  | zero => exact absurd HA.out (by simp [mapsheetslaw07_NameSpells.j0])
  | succ kj2 =>
   have H := HA.out
   clear HA
   simp only [mapsheetslaw07_NameSpells.j0] at H
   by_cases c8 : x19_2 = true
   ·subst c8
    have H1 : ((mapsheetslaw07_awake.f kj2).bind fun t333 => (some t333)) = some r := by rw [if_pos rfl] at H; exact H
    clear H
    have H := H1
    clear H1
    replace H := Option.bind_eq_some_iff.mp H
    obtain ⟨t333, A90, H⟩ := H
    replace H : (some t333) = some r := H
    have A9 := Aside0.mk A90
    clear A90
    obtain rfl := Option.some.inj H
    go_wp2_with (first | ((with_reducible refine gate_callee (f := 11) rfl ?_); refine goesL_ (some 20) rfl rfl Try.func11 (by kernel_rfl) rfl #[] rfl (by (try simp only [List.map_toArray, List.map_cons, List.map_nil]); first | done | rfl | (simp only [List.length_drop, List.length_take]; rfl)) ?_; (with_reducible refine (mapsheetslaw07_awake.calls kj2  t333 _ (ML.below HM.out (by repeat (first | (with_reducible first | exact HB.out | apply below_alloc | apply pw_below_drewN | apply below_drew1) | exact HB.out))) A9.out).mono ?_); rintro e w10 ⟨rfl, hb⟩; refine ⟨_, rfl, ?_⟩; have n0_ := Aside0.mk (below_step (by repeat (first | (with_reducible first | exact HB.out | apply below_alloc | apply pw_below_drewN | apply below_drew1) | exact HB.out)) hb); clear HB; have HB := n0_; clear n0_; (try clear hb); (try clear hb2); (try clear hk); (try clear hi)))
    go_ret
    exact ⟨by first | rfl | (simp [errW_none, errW_some] <;> rfl) | (simp [*, errW_none, errW_some] <;> rfl), by repeat (first | (with_reducible first | exact HB.out | apply below_alloc | apply pw_below_drewN | apply below_drew1) | exact HB.out)⟩
   ·replace c8 := Bool.eq_false_iff.mpr c8
    subst c8
    have H1 : ((some (([(⟨#[32]⟩ : ByteArray), (⟨#[39]⟩ : ByteArray), (⟨#[45]⟩ : ByteArray), (⟨#[46]⟩ : ByteArray), (⟨#[40]⟩ : ByteArray), (⟨#[41]⟩ : ByteArray), (⟨#[]⟩ : ByteArray)] : List ByteArray) : List ByteArray)).bind fun y334 => (if 0 ≤ (Int.tmod (wrap64 (a0)) 7) then (if (Int.tmod (wrap64 (a0)) 7) < (y334.length : Int) then (if 1 + (rdOf ByteArray.empty y334 (Int.tmod (wrap64 (a0)) 7)).size ≤ 9223372036854775807 then (if ((⟨#[65]⟩ : ByteArray) ++ (rdOf ByteArray.empty y334 (Int.tmod (wrap64 (a0)) 7))).size + 1 ≤ 9223372036854775807 then (if (((⟨#[65]⟩ : ByteArray) ++ (rdOf ByteArray.empty y334 (Int.tmod (wrap64 (a0)) 7))) ++ (⟨#[98]⟩ : ByteArray)).size + a1.size ≤ 9223372036854775807 then ((name_Key.f kj2 ((((⟨#[65]⟩ : ByteArray) ++ (rdOf ByteArray.empty y334 (Int.tmod (wrap64 (a0)) 7))) ++ (⟨#[98]⟩ : ByteArray)) ++ a1)).bind fun bt338 => (if 2 + a1.size ≤ 9223372036854775807 then ((name_Key.f kj2 ((⟨#[97, 98]⟩ : ByteArray) ++ a1)).bind fun bt342 => ((mapsheetslaw07_awake.f kj2).bind fun t346 => (if t346 = true then (if bt338.2 = 0 then (if bt342.2 = 0 then ((mapsheetsref04_Same.f kj2 bt338.1 bt342.1).bind fun t347 => (if t347 = true then ((name_Begins.f kj2 ((((⟨#[65]⟩ : ByteArray) ++ (rdOf ByteArray.empty y334 (Int.tmod (wrap64 (a0)) 7))) ++ (⟨#[98]⟩ : ByteArray)) ++ a1) ((⟨#[97, 98]⟩ : ByteArray) ++ a1)).bind fun t348 => (if t348 = true then ((name_Begins.f kj2 ((⟨#[97, 98]⟩ : ByteArray) ++ a1) ((((⟨#[65]⟩ : ByteArray) ++ (rdOf ByteArray.empty y334 (Int.tmod (wrap64 (a0)) 7))) ++ (⟨#[98]⟩ : ByteArray)) ++ a1)).bind fun t349 => (some t349)) else (none))) else (none))) else (none)) else (none)) else (none)))) else (none))) else (none)) else (none)) else (none)) else (none)) else (none))) = some r := by rw [if_neg (show ¬ (false = true) by decide)] at H; exact H
    clear H
    have H := H1
    clear H1
    obtain ⟨y334, hy334⟩ : ∃ y_ : List ByteArray, y_ = (([(⟨#[32]⟩ : ByteArray), (⟨#[39]⟩ : ByteArray), (⟨#[45]⟩ : ByteArray), (⟨#[46]⟩ : ByteArray), (⟨#[40]⟩ : ByteArray), (⟨#[41]⟩ : ByteArray), (⟨#[]⟩ : ByteArray)] : List ByteArray)) := ⟨_, rfl⟩
    replace H : (if 0 ≤ (Int.tmod (wrap64 (a0)) 7) then (if (Int.tmod (wrap64 (a0)) 7) < (y334.length : Int) then (if 1 + (rdOf ByteArray.empty y334 (Int.tmod (wrap64 (a0)) 7)).size ≤ 9223372036854775807 then (if ((⟨#[65]⟩ : ByteArray) ++ (rdOf ByteArray.empty y334 (Int.tmod (wrap64 (a0)) 7))).size + 1 ≤ 9223372036854775807 then (if (((⟨#[65]⟩ : ByteArray) ++ (rdOf ByteArray.empty y334 (Int.tmod (wrap64 (a0)) 7))) ++ (⟨#[98]⟩ : ByteArray)).size + a1.size ≤ 9223372036854775807 then ((name_Key.f kj2 ((((⟨#[65]⟩ : ByteArray) ++ (rdOf ByteArray.empty y334 (Int.tmod (wrap64 (a0)) 7))) ++ (⟨#[98]⟩ : ByteArray)) ++ a1)).bind fun bt338 => (if 2 + a1.size ≤ 9223372036854775807 then ((name_Key.f kj2 ((⟨#[97, 98]⟩ : ByteArray) ++ a1)).bind fun bt342 => ((mapsheetslaw07_awake.f kj2).bind fun t346 => (if t346 = true then (if bt338.2 = 0 then (if bt342.2 = 0 then ((mapsheetsref04_Same.f kj2 bt338.1 bt342.1).bind fun t347 => (if t347 = true then ((name_Begins.f kj2 ((((⟨#[65]⟩ : ByteArray) ++ (rdOf ByteArray.empty y334 (Int.tmod (wrap64 (a0)) 7))) ++ (⟨#[98]⟩ : ByteArray)) ++ a1) ((⟨#[97, 98]⟩ : ByteArray) ++ a1)).bind fun t348 => (if t348 = true then ((name_Begins.f kj2 ((⟨#[97, 98]⟩ : ByteArray) ++ a1) ((((⟨#[65]⟩ : ByteArray) ++ (rdOf ByteArray.empty y334 (Int.tmod (wrap64 (a0)) 7))) ++ (⟨#[98]⟩ : ByteArray)) ++ a1)).bind fun t349 => (some t349)) else (none))) else (none))) else (none)) else (none)) else (none)))) else (none))) else (none)) else (none)) else (none)) else (none)) else (none)) = some r := by first | (rw [hy334]; with_reducible exact H) | (have H2_ := (Option.bind_some _ _).symm.trans H; rw [hy334]; with_reducible exact H2_) | (have H2_ := (Option.bind_some _ _).symm.trans H; with_reducible exact H2_) | with_reducible exact H | (rw [hy334]; exact H) | exact H
    have Ny334 := Aside0.mk hy334
    clear hy334
    obtain ⟨ji11, hji11⟩ : ∃ j_ : Int, (Int.tmod (wrap64 (a0)) 7) = j_ := ⟨_, rfl⟩
    replace H : (if 0 ≤ (ji11) then (if (ji11) < (y334.length : Int) then (if 1 + (rdOf ByteArray.empty y334 (ji11)).size ≤ 9223372036854775807 then (if ((⟨#[65]⟩ : ByteArray) ++ (rdOf ByteArray.empty y334 (ji11))).size + 1 ≤ 9223372036854775807 then (if (((⟨#[65]⟩ : ByteArray) ++ (rdOf ByteArray.empty y334 (ji11))) ++ (⟨#[98]⟩ : ByteArray)).size + a1.size ≤ 9223372036854775807 then ((name_Key.f kj2 ((((⟨#[65]⟩ : ByteArray) ++ (rdOf ByteArray.empty y334 (ji11))) ++ (⟨#[98]⟩ : ByteArray)) ++ a1)).bind fun bt338 => (if 2 + a1.size ≤ 9223372036854775807 then ((name_Key.f kj2 ((⟨#[97, 98]⟩ : ByteArray) ++ a1)).bind fun bt342 => ((mapsheetslaw07_awake.f kj2).bind fun t346 => (if t346 = true then (if bt338.2 = 0 then (if bt342.2 = 0 then ((mapsheetsref04_Same.f kj2 bt338.1 bt342.1).bind fun t347 => (if t347 = true then ((name_Begins.f kj2 ((((⟨#[65]⟩ : ByteArray) ++ (rdOf ByteArray.empty y334 (ji11))) ++ (⟨#[98]⟩ : ByteArray)) ++ a1) ((⟨#[97, 98]⟩ : ByteArray) ++ a1)).bind fun t348 => (if t348 = true then ((name_Begins.f kj2 ((⟨#[97, 98]⟩ : ByteArray) ++ a1) ((((⟨#[65]⟩ : ByteArray) ++ (rdOf ByteArray.empty y334 (ji11))) ++ (⟨#[98]⟩ : ByteArray)) ++ a1)).bind fun t349 => (some t349)) else (none))) else (none))) else (none)) else (none)) else (none)))) else (none))) else (none)) else (none)) else (none)) else (none)) else (none)) = some r := by first | (rw [hji11] at H; exact H) | (simp only [hji11] at H ⊢; exact H)
    by_cases c12 : 0 ≤ (ji11)
    ·rw [if_pos c12] at H
     have c12b0 : decide (0 ≤ (ji11)) = true := decide_eq_true c12
     clear c12
     by_cases c13 : (ji11) < (y334.length : Int)
     ·rw [if_pos c13] at H
      have c13b0 : decide ((ji11) < (y334.length : Int)) = true := decide_eq_true c13
      clear c13
      by_cases c14 : 1 + (rdOf ByteArray.empty y334 (ji11)).size ≤ 9223372036854775807
      ·rw [if_pos c14] at H
       have c14b0 := eq_true c14
       have c14b1 : decide (1 + (rdOf ByteArray.empty y334 (ji11)).size ≤ 9223372036854775807) = true := decide_eq_true c14
       try have c14b2 : (9223372036854775807 < 1 + (rdOf ByteArray.empty y334 (ji11)).size) = False := eq_false (Nat.not_lt.2 c14)
       by_cases c15 : ((⟨#[65]⟩ : ByteArray) ++ (rdOf ByteArray.empty y334 (ji11))).size + 1 ≤ 9223372036854775807
       ·rw [if_pos c15] at H
        have c15b0 := eq_true c15
        have c15b1 : decide (((⟨#[65]⟩ : ByteArray) ++ (rdOf ByteArray.empty y334 (ji11))).size + 1 ≤ 9223372036854775807) = true := decide_eq_true c15
        try have c15b2 : (9223372036854775807 < ((⟨#[65]⟩ : ByteArray) ++ (rdOf ByteArray.empty y334 (ji11))).size + 1) = False := eq_false (Nat.not_lt.2 c15)
        try have c15b3 : (9223372036854775807 < 1 + (rdOf ByteArray.empty y334 (ji11)).size + 1) = False := eq_false (by have h_ := Nat.not_lt.2 c15; simp only [ByteArray.size_append] at h_; exact h_)
        by_cases c16 : (((⟨#[65]⟩ : ByteArray) ++ (rdOf ByteArray.empty y334 (ji11))) ++ (⟨#[98]⟩ : ByteArray)).size + a1.size ≤ 9223372036854775807
        ·rw [if_pos c16] at H
         have c16b0 := eq_true c16
         have c16b1 : decide ((((⟨#[65]⟩ : ByteArray) ++ (rdOf ByteArray.empty y334 (ji11))) ++ (⟨#[98]⟩ : ByteArray)).size + a1.size ≤ 9223372036854775807) = true := decide_eq_true c16
         try have c16b2 : (9223372036854775807 < (((⟨#[65]⟩ : ByteArray) ++ (rdOf ByteArray.empty y334 (ji11))) ++ (⟨#[98]⟩ : ByteArray)).size + a1.size) = False := eq_false (Nat.not_lt.2 c16)
         try have c16b3 : (9223372036854775807 < 1 + (rdOf ByteArray.empty y334 (ji11)).size + 1 + a1.size) = False := eq_false (by have h_ := Nat.not_lt.2 c16; simp only [ByteArray.size_append] at h_; exact h_)
         replace H := Option.bind_eq_some_iff.mp H
         obtain ⟨⟨t338, t339⟩, A170, H⟩ := H
         replace H : (if 2 + a1.size ≤ 9223372036854775807 then ((name_Key.f kj2 ((⟨#[97, 98]⟩ : ByteArray) ++ a1)).bind fun bt342 => ((mapsheetslaw07_awake.f kj2).bind fun t346 => (if t346 = true then (if t339 = 0 then (if bt342.2 = 0 then ((mapsheetsref04_Same.f kj2 t338 bt342.1).bind fun t347 => (if t347 = true then ((name_Begins.f kj2 ((((⟨#[65]⟩ : ByteArray) ++ (rdOf ByteArray.empty y334 (ji11))) ++ (⟨#[98]⟩ : ByteArray)) ++ a1) ((⟨#[97, 98]⟩ : ByteArray) ++ a1)).bind fun t348 => (if t348 = true then ((name_Begins.f kj2 ((⟨#[97, 98]⟩ : ByteArray) ++ a1) ((((⟨#[65]⟩ : ByteArray) ++ (rdOf ByteArray.empty y334 (ji11))) ++ (⟨#[98]⟩ : ByteArray)) ++ a1)).bind fun t349 => (some t349)) else (none))) else (none))) else (none)) else (none)) else (none)))) else (none)) = some r := H
         have A17 := Aside0.mk A170
         clear A170
         by_cases c18 : 2 + a1.size ≤ 9223372036854775807
         ·rw [if_pos c18] at H
          have c18b0 := eq_true c18
          have c18b1 : decide (2 + a1.size ≤ 9223372036854775807) = true := decide_eq_true c18
          try have c18b2 : (9223372036854775807 < 2 + a1.size) = False := eq_false (Nat.not_lt.2 c18)
          replace H := Option.bind_eq_some_iff.mp H
          obtain ⟨⟨t342, t343⟩, A190, H⟩ := H
          replace H : ((mapsheetslaw07_awake.f kj2).bind fun t346 => (if t346 = true then (if t339 = 0 then (if t343 = 0 then ((mapsheetsref04_Same.f kj2 t338 t342).bind fun t347 => (if t347 = true then ((name_Begins.f kj2 ((((⟨#[65]⟩ : ByteArray) ++ (rdOf ByteArray.empty y334 (ji11))) ++ (⟨#[98]⟩ : ByteArray)) ++ a1) ((⟨#[97, 98]⟩ : ByteArray) ++ a1)).bind fun t348 => (if t348 = true then ((name_Begins.f kj2 ((⟨#[97, 98]⟩ : ByteArray) ++ a1) ((((⟨#[65]⟩ : ByteArray) ++ (rdOf ByteArray.empty y334 (ji11))) ++ (⟨#[98]⟩ : ByteArray)) ++ a1)).bind fun t349 => (some t349)) else (none))) else (none))) else (none)) else (none)) else (none))) = some r := H
          have A19 := Aside0.mk A190
          clear A190
          replace H := Option.bind_eq_some_iff.mp H
          obtain ⟨t346, A200, H⟩ := H
          replace H : (if t346 = true then (if t339 = 0 then (if t343 = 0 then ((mapsheetsref04_Same.f kj2 t338 t342).bind fun t347 => (if t347 = true then ((name_Begins.f kj2 ((((⟨#[65]⟩ : ByteArray) ++ (rdOf ByteArray.empty y334 (ji11))) ++ (⟨#[98]⟩ : ByteArray)) ++ a1) ((⟨#[97, 98]⟩ : ByteArray) ++ a1)).bind fun t348 => (if t348 = true then ((name_Begins.f kj2 ((⟨#[97, 98]⟩ : ByteArray) ++ a1) ((((⟨#[65]⟩ : ByteArray) ++ (rdOf ByteArray.empty y334 (ji11))) ++ (⟨#[98]⟩ : ByteArray)) ++ a1)).bind fun t349 => (some t349)) else (none))) else (none))) else (none)) else (none)) else (none)) = some r := H
          have A20 := Aside0.mk A200
          clear A200
          by_cases c21 : t346 = true
          ·subst c21
           have H1 : (if t339 = 0 then (if t343 = 0 then ((mapsheetsref04_Same.f kj2 t338 t342).bind fun t347 => (if t347 = true then ((name_Begins.f kj2 ((((⟨#[65]⟩ : ByteArray) ++ (rdOf ByteArray.empty y334 (ji11))) ++ (⟨#[98]⟩ : ByteArray)) ++ a1) ((⟨#[97, 98]⟩ : ByteArray) ++ a1)).bind fun t348 => (if t348 = true then ((name_Begins.f kj2 ((⟨#[97, 98]⟩ : ByteArray) ++ a1) ((((⟨#[65]⟩ : ByteArray) ++ (rdOf ByteArray.empty y334 (ji11))) ++ (⟨#[98]⟩ : ByteArray)) ++ a1)).bind fun t349 => (some t349)) else (none))) else (none))) else (none)) else (none)) = some r := by rw [if_pos rfl] at H; exact H
           clear H
           have H := H1
           clear H1
           by_cases c22 : t339 = 0
           ·rw [if_pos c22] at H
            have c22b0 : (t339 == 0) = true := beq_iff_eq.mpr c22
            have c22b1 : (t339 != 0) = false := bne_eq_false_iff_eq.mpr c22
            clear c22
            by_cases c23 : t343 = 0
            ·rw [if_pos c23] at H
             have c23b0 : (t343 == 0) = true := beq_iff_eq.mpr c23
             have c23b1 : (t343 != 0) = false := bne_eq_false_iff_eq.mpr c23
             clear c23
             replace H := Option.bind_eq_some_iff.mp H
             obtain ⟨t347, A240, H⟩ := H
             replace H : (if t347 = true then ((name_Begins.f kj2 ((((⟨#[65]⟩ : ByteArray) ++ (rdOf ByteArray.empty y334 (ji11))) ++ (⟨#[98]⟩ : ByteArray)) ++ a1) ((⟨#[97, 98]⟩ : ByteArray) ++ a1)).bind fun t348 => (if t348 = true then ((name_Begins.f kj2 ((⟨#[97, 98]⟩ : ByteArray) ++ a1) ((((⟨#[65]⟩ : ByteArray) ++ (rdOf ByteArray.empty y334 (ji11))) ++ (⟨#[98]⟩ : ByteArray)) ++ a1)).bind fun t349 => (some t349)) else (none))) else (none)) = some r := H
             have A24 := Aside0.mk A240
             clear A240
             by_cases c25 : t347 = true
             ·subst c25
              have H1 : ((name_Begins.f kj2 ((((⟨#[65]⟩ : ByteArray) ++ (rdOf ByteArray.empty y334 (ji11))) ++ (⟨#[98]⟩ : ByteArray)) ++ a1) ((⟨#[97, 98]⟩ : ByteArray) ++ a1)).bind fun t348 => (if t348 = true then ((name_Begins.f kj2 ((⟨#[97, 98]⟩ : ByteArray) ++ a1) ((((⟨#[65]⟩ : ByteArray) ++ (rdOf ByteArray.empty y334 (ji11))) ++ (⟨#[98]⟩ : ByteArray)) ++ a1)).bind fun t349 => (some t349)) else (none))) = some r := by rw [if_pos rfl] at H; exact H
              clear H
              have H := H1
              clear H1
              replace H := Option.bind_eq_some_iff.mp H
              obtain ⟨t348, A260, H⟩ := H
              replace H : (if t348 = true then ((name_Begins.f kj2 ((⟨#[97, 98]⟩ : ByteArray) ++ a1) ((((⟨#[65]⟩ : ByteArray) ++ (rdOf ByteArray.empty y334 (ji11))) ++ (⟨#[98]⟩ : ByteArray)) ++ a1)).bind fun t349 => (some t349)) else (none)) = some r := H
              have A26 := Aside0.mk A260
              clear A260
              by_cases c27 : t348 = true
              ·subst c27
               have H1 : ((name_Begins.f kj2 ((⟨#[97, 98]⟩ : ByteArray) ++ a1) ((((⟨#[65]⟩ : ByteArray) ++ (rdOf ByteArray.empty y334 (ji11))) ++ (⟨#[98]⟩ : ByteArray)) ++ a1)).bind fun t349 => (some t349)) = some r := by rw [if_pos rfl] at H; exact H
               clear H
               have H := H1
               clear H1
               replace H := Option.bind_eq_some_iff.mp H
               obtain ⟨t349, A280, H⟩ := H
               replace H : (some t349) = some r := H
               have A28 := Aside0.mk A280
               clear A280
               obtain rfl := Option.some.inj H
               go_wp2_with (first | ((with_reducible refine gate_dst (N := 21) rfl ?_); refine Kd.R_lit Kd.string _ 9 ?hg (N := 21) ?hd (xs := ([(⟨#[32]⟩ : ByteArray), (⟨#[39]⟩ : ByteArray), (⟨#[45]⟩ : ByteArray), (⟨#[46]⟩ : ByteArray), (⟨#[40]⟩ : ByteArray), (⟨#[41]⟩ : ByteArray), (⟨#[]⟩ : ByteArray)] : List ByteArray)) (inner := [.string (⟨#[32]⟩ : ByteArray), .string (⟨#[39]⟩ : ByteArray), .string (⟨#[45]⟩ : ByteArray), .string (⟨#[46]⟩ : ByteArray), .string (⟨#[40]⟩ : ByteArray), .string (⟨#[41]⟩ : ByteArray), .string (⟨#[]⟩ : ByteArray)]) (ok := fun _ => True) (okp := fun _ => True) ?hr ?hp (fun _ hk => hk) trivial (Below.refl _ _) (Nat.le_refl _) (by simp) ?_; (case hd => rfl); (case hg => rfl); (case hr => first | (go_simp; done) | (go_simp; rfl)); (case hp => exact (Reps.one (show Kd.M Kd.string _ _ _ (⟨#[32]⟩ : ByteArray) [.string (⟨#[32]⟩ : ByteArray)] from rfl) (Reps.one (show Kd.M Kd.string _ _ _ (⟨#[39]⟩ : ByteArray) [.string (⟨#[39]⟩ : ByteArray)] from rfl) (Reps.one (show Kd.M Kd.string _ _ _ (⟨#[45]⟩ : ByteArray) [.string (⟨#[45]⟩ : ByteArray)] from rfl) (Reps.one (show Kd.M Kd.string _ _ _ (⟨#[46]⟩ : ByteArray) [.string (⟨#[46]⟩ : ByteArray)] from rfl) (Reps.one (show Kd.M Kd.string _ _ _ (⟨#[40]⟩ : ByteArray) [.string (⟨#[40]⟩ : ByteArray)] from rfl) (Reps.one (show Kd.M Kd.string _ _ _ (⟨#[41]⟩ : ByteArray) [.string (⟨#[41]⟩ : ByteArray)] from rfl) (Reps.one (show Kd.M Kd.string _ _ _ (⟨#[]⟩ : ByteArray) [.string (⟨#[]⟩ : ByteArray)] from rfl) (Reps.none _ _))))))))); intro v335 w29 ho30 hb hg_ hnew_; clear hg_ hnew_; (first | rw [← Ny334.out] at ho30 | (simp only [Int.reduceToNat] at ho30; rw [← Ny334.out] at ho30)); have n0_ := Aside0.mk (Kd.R_lower ho30 (below_size (by repeat (first | (with_reducible first | exact HB.out | apply below_alloc | apply pw_below_drewN | apply below_drew1) | exact HB.out)))); have n1_ := Aside0.mk (below_step (by repeat (first | (with_reducible first | exact HB.out | apply below_alloc | apply pw_below_drewN | apply below_drew1) | exact HB.out)) hb); clear HB; have HO336 := n0_; have HB := n1_; clear n0_ n1_; clear hb ho30; obtain ⟨Ao31, co31, eo31⟩ := Kd.R_slice HO336.out; subst eo31; have p337 : 0 ≤ ((ji11) : Int) := of_decide_eq_true (by first | (with_reducible assumption) | assumption); have q337 : (ji11) < (y334.length : Int) := of_decide_eq_true (by first | (with_reducible assumption) | assumption); obtain ⟨ad337, e337, hx337_0⟩ := Kd.at_string (Kd.R_reads' HO336.out).2.2 (ji11) p337 q337; cases e337; replace p337 := eq_true p337; replace q337 := eq_true q337) | ((with_reducible refine gate_callee (f := 12) rfl ?_); refine goesL_ (some 34) rfl rfl Try.func12 (by kernel_rfl) rfl #[.string ((((⟨#[65]⟩ : ByteArray) ++ (rdOf ByteArray.empty y334 (ji11))) ++ (⟨#[98]⟩ : ByteArray)) ++ a1)] rfl (by (try simp only [List.map_toArray, List.map_cons, List.map_nil]); first | done | (simp only [hji11]; rfl) | rfl | (simp only [List.length_drop, List.length_take]; rfl)) ?_; (with_reducible refine (name_Key.calls kj2 ((((⟨#[65]⟩ : ByteArray) ++ (rdOf ByteArray.empty y334 (ji11))) ++ (⟨#[98]⟩ : ByteArray)) ++ a1) t338 t339 _ (ML.below HM.out (by repeat (first | (with_reducible first | exact HB.out | apply below_alloc | apply pw_below_drewN | apply below_drew1) | exact HB.out))) A17.out).mono ?_); rintro e w32 ⟨v340, rfl, ho0, hb⟩; refine ⟨_, rfl, ?_⟩; have n0_ := Aside0.mk (Kd.R_below (by (with_reducible repeat (first | apply Kd.R_alloc | apply Kd.R_drewN | apply Kd.R_drew)); exact HO336.out) hb); have n1_ := Aside0.mk (Kd.R_lower ho0 (below_size (by repeat (first | (with_reducible first | exact HB.out | apply below_alloc | apply pw_below_drewN | apply below_drew1) | exact HB.out)))); have n2_ := Aside0.mk (below_step (by repeat (first | (with_reducible first | exact HB.out | apply below_alloc | apply pw_below_drewN | apply below_drew1) | exact HB.out)) hb); clear HO336; clear HB; have HO336 := n0_; have HO341 := n1_; have HB := n2_; clear n0_ n1_ n2_; (try clear hb); (try clear hb2); (try clear hk); (try clear hi); (try clear ho0)) | ((with_reducible refine gate_callee (f := 12) rfl ?_); refine goesL_ (some 40) rfl rfl Try.func12 (by kernel_rfl) rfl #[.string ((⟨#[97, 98]⟩ : ByteArray) ++ a1)] rfl (by (try simp only [List.map_toArray, List.map_cons, List.map_nil]); first | done | rfl | (simp only [List.length_drop, List.length_take]; rfl)) ?_; (with_reducible refine (name_Key.calls kj2 ((⟨#[97, 98]⟩ : ByteArray) ++ a1) t342 t343 _ (ML.below HM.out (by repeat (first | (with_reducible first | exact HB.out | apply below_alloc | apply pw_below_drewN | apply below_drew1) | exact HB.out))) A19.out).mono ?_); rintro e w33 ⟨v344, rfl, ho0, hb⟩; refine ⟨_, rfl, ?_⟩; have n0_ := Aside0.mk (Kd.R_below (by (with_reducible repeat (first | apply Kd.R_alloc | apply Kd.R_drewN | apply Kd.R_drew)); exact HO336.out) hb); have n1_ := Aside0.mk (Kd.R_elder' (by (with_reducible repeat (first | apply Kd.R_alloc | apply Kd.R_drewN | apply Kd.R_drew)); exact HO341.out) (Kd.R_base ho0) hb); have n2_ := Aside0.mk (Kd.R_lower (Kd.R_new' ho0 (Kd.R_lt (by (with_reducible repeat (first | apply Kd.R_alloc | apply Kd.R_drewN | apply Kd.R_drew)); exact HO341.out))) (below_size (by repeat (first | (with_reducible first | exact HB.out | apply below_alloc | apply pw_below_drewN | apply below_drew1) | exact HB.out)))); have n3_ := Aside0.mk (below_step (by repeat (first | (with_reducible first | exact HB.out | apply below_alloc | apply pw_below_drewN | apply below_drew1) | exact HB.out)) hb); clear HO336; clear HO341; clear HB; have HO336 := n0_; have HO341 := n1_; have HO345 := n2_; have HB := n3_; clear n0_ n1_ n2_ n3_; (try clear hb); (try clear hb2); (try clear hk); (try clear hi); (try clear ho0)) | ((with_reducible refine gate_callee (f := 11) rfl ?_); refine goesL_ (some 43) rfl rfl Try.func11 (by kernel_rfl) rfl #[] rfl (by (try simp only [List.map_toArray, List.map_cons, List.map_nil]); first | done | rfl | (simp only [List.length_drop, List.length_take]; rfl)) ?_; (with_reducible refine (mapsheetslaw07_awake.calls kj2  true _ (ML.below HM.out (by repeat (first | (with_reducible first | exact HB.out | apply below_alloc | apply pw_below_drewN | apply below_drew1) | exact HB.out))) A20.out).mono ?_); rintro e w34 ⟨rfl, hb⟩; refine ⟨_, rfl, ?_⟩; have n0_ := Aside0.mk (Kd.R_below (by (with_reducible repeat (first | apply Kd.R_alloc | apply Kd.R_drewN | apply Kd.R_drew)); exact HO336.out) hb); have n1_ := Aside0.mk (Kd.R_below (by (with_reducible repeat (first | apply Kd.R_alloc | apply Kd.R_drewN | apply Kd.R_drew)); exact HO341.out) hb); have n2_ := Aside0.mk (Kd.R_below (by (with_reducible repeat (first | apply Kd.R_alloc | apply Kd.R_drewN | apply Kd.R_drew)); exact HO345.out) hb); have n3_ := Aside0.mk (below_step (by repeat (first | (with_reducible first | exact HB.out | apply below_alloc | apply pw_below_drewN | apply below_drew1) | exact HB.out)) hb); clear HO336; clear HO341; clear HO345; clear HB; have HO336 := n0_; have HO341 := n1_; have HO345 := n2_; have HB := n3_; clear n0_ n1_ n2_ n3_; (try clear hb); (try clear hb2); (try clear hk); (try clear hi); obtain ⟨Ao35, co35, eo35⟩ := Kd.R_slice HO341.out; subst eo35; obtain ⟨Ao36, co36, eo36⟩ := Kd.R_slice HO345.out; subst eo36) | (go_at_call 16; (with_reducible refine (mapsheetsref04_Same.calls kj2 _ _ t338 _ _ t342 true _ ?side1 ?side2 ?side3 ?side4 A24.out).mono ?_); (case side1 => repeat (first | exact (Kd.R_reads' HO341.out).2.2 | (with_reducible refine Kd.C_alloc ?_ _) | (with_reducible refine Kd.C_drewN ?_ _) | (with_reducible refine Kd.C_drew ?_))); (case side2 => exact (Kd.R_reads' HO341.out).2.1); (case side3 => repeat (first | exact (Kd.R_reads' HO345.out).2.2 | (with_reducible refine Kd.C_alloc ?_ _) | (with_reducible refine Kd.C_drewN ?_ _) | (with_reducible refine Kd.C_drew ?_))); (case side4 => exact (Kd.R_reads' HO345.out).2.1); rintro e w' ⟨rfl, ⟨nd, rfl⟩⟩) | (go_at_call 19; (with_reducible refine (name_Begins.calls kj2 ((((⟨#[65]⟩ : ByteArray) ++ (rdOf ByteArray.empty y334 (ji11))) ++ (⟨#[98]⟩ : ByteArray)) ++ a1) ((⟨#[97, 98]⟩ : ByteArray) ++ a1) true _ (ML.below HM.out (by repeat (first | (with_reducible first | exact HB.out | apply below_alloc | apply pw_below_drewN | apply below_drew1) | exact HB.out))) A26.out).mono ?_); rintro e w37 ⟨rfl, hb⟩; have n0_ := Aside0.mk (Kd.R_below (by (with_reducible repeat (first | apply Kd.R_alloc | apply Kd.R_drewN | apply Kd.R_drew)); exact HO336.out) hb); have n1_ := Aside0.mk (Kd.R_below (by (with_reducible repeat (first | apply Kd.R_alloc | apply Kd.R_drewN | apply Kd.R_drew)); exact HO341.out) hb); have n2_ := Aside0.mk (Kd.R_below (by (with_reducible repeat (first | apply Kd.R_alloc | apply Kd.R_drewN | apply Kd.R_drew)); exact HO345.out) hb); have n3_ := Aside0.mk (below_step (by repeat (first | (with_reducible first | exact HB.out | apply below_alloc | apply pw_below_drewN | apply below_drew1) | exact HB.out)) hb); clear HO336; clear HO341; clear HO345; clear HB; have HO336 := n0_; have HO341 := n1_; have HO345 := n2_; have HB := n3_; clear n0_ n1_ n2_ n3_; (try clear hb); (try clear hb2); (try clear hk); (try clear hi)) | (go_at_call 19; (with_reducible refine (name_Begins.calls kj2 ((⟨#[97, 98]⟩ : ByteArray) ++ a1) ((((⟨#[65]⟩ : ByteArray) ++ (rdOf ByteArray.empty y334 (ji11))) ++ (⟨#[98]⟩ : ByteArray)) ++ a1) t349 _ (ML.below HM.out (by repeat (first | (with_reducible first | exact HB.out | apply below_alloc | apply pw_below_drewN | apply below_drew1) | exact HB.out))) A28.out).mono ?_); rintro e w38 ⟨rfl, hb⟩; have n0_ := Aside0.mk (Kd.R_below (by (with_reducible repeat (first | apply Kd.R_alloc | apply Kd.R_drewN | apply Kd.R_drew)); exact HO336.out) hb); have n1_ := Aside0.mk (Kd.R_below (by (with_reducible repeat (first | apply Kd.R_alloc | apply Kd.R_drewN | apply Kd.R_drew)); exact HO341.out) hb); have n2_ := Aside0.mk (Kd.R_below (by (with_reducible repeat (first | apply Kd.R_alloc | apply Kd.R_drewN | apply Kd.R_drew)); exact HO345.out) hb); have n3_ := Aside0.mk (below_step (by repeat (first | (with_reducible first | exact HB.out | apply below_alloc | apply pw_below_drewN | apply below_drew1) | exact HB.out)) hb); clear HO336; clear HO341; clear HO345; clear HB; have HO336 := n0_; have HO341 := n1_; have HO345 := n2_; have HB := n3_; clear n0_ n1_ n2_ n3_; (try clear hb); (try clear hb2); (try clear hk); (try clear hi)))
               go_ret
               exact ⟨by first | rfl | (simp [errW_none, errW_some] <;> rfl) | (simp only [← hji11]; first | rfl | (simp [errW_none, errW_some] <;> rfl)) | (simp [*, errW_none, errW_some] <;> rfl), by repeat (first | (with_reducible first | exact HB.out | apply below_alloc | apply pw_below_drewN | apply below_drew1) | exact HB.out)⟩
              ·replace c27 := Bool.eq_false_iff.mpr c27
               subst c27
               have H1 : (none) = some r := by rw [if_neg (show ¬ (false = true) by decide)] at H; exact H
               clear H
               have H := H1
               clear H1
               exact absurd H (by simp)
             ·replace c25 := Bool.eq_false_iff.mpr c25
              subst c25
              have H1 : (none) = some r := by rw [if_neg (show ¬ (false = true) by decide)] at H; exact H
              clear H
              have H := H1
              clear H1
              exact absurd H (by simp)
            ·rw [if_neg c23] at H
             exact absurd H (by simp)
           ·rw [if_neg c22] at H
            exact absurd H (by simp)
          ·replace c21 := Bool.eq_false_iff.mpr c21
           subst c21
           have H1 : (none) = some r := by rw [if_neg (show ¬ (false = true) by decide)] at H; exact H
           clear H
           have H := H1
           clear H1
           exact absurd H (by simp)
         ·rw [if_neg c18] at H
          exact absurd H (by simp)
        ·rw [if_neg c16] at H
         exact absurd H (by simp)
       ·rw [if_neg c15] at H
        exact absurd H (by simp)
      ·rw [if_neg c14] at H
       exact absurd H (by simp)
     ·rw [if_neg c13] at H
      exact absurd H (by simp)
    ·rw [if_neg c12] at H
     exact absurd H (by simp)

/-- THE ONE PURE STATEMENT of mapsheetslaw07_NameSpells: yours. -/
def mapsheetslaw07_NameSpells.Pure : Prop := ∀ (a0 : Int) (a1 : ByteArray), (Lit.int .u8 a0).wf = true → a1.size ≤ 140737488351232 → ∃ k, mapsheetslaw07_NameSpells.f k a0 a1 = some true
theorem mapsheetslaw07_NameSpells.walk (P : mapsheetslaw07_NameSpells.Pure) (a0 : Int) (a1 : ByteArray) (w : World) (w0 : (Lit.int .u8 a0).wf = true) (w1 : a1.size ≤ 140737488351232) (hml : ML w) :
  Calls Try.prog 9 #[.int .u8 a0, .string a1] w fun e w' => e = .returned (.bool true) ∧ Below w.heap.size w w' := by
 obtain ⟨k, h⟩ := P a0 a1 w0 w1
 refine (mapsheetslaw07_NameSpells.calls k a0 a1 true w hml h).mono ?_
 rintro e w' ⟨rfl, hd⟩
 exact ⟨rfl, hd⟩

end Go.Proofs.Ytijkaeonihgcfaa.P
