-- Written by wip/tools/xprint.py (this session's program, over the kit's print.py) for this seat.
import Derived.Test.YteojklacaecmpaaPx0
import Derived.Test.YteojklacaecmpaaPx6
import Derived.Test.YteojklacaecmpaaPx10
import Derived.Test.YteojklacaecmpaaPx11
namespace Go.Proofs.Yteojklacaecmpaa.P
open Go.RowKit Go.Proofs.YteojklacaecmpaaW.PrintWords Go.Proofs.YteojklacaecmpaaW.PrintLast Go.Proofs.YteojklacaecmpaaW.PrintMore
attribute [local go_sem] max2_int min2_int max_two min_two max_three min_three max_four min_four   -- for this text's walks alone
set_option linter.unusedVariables false
set_option linter.unusedSimpArgs false

/-! ### mapsheetsref12_text: function 38 -/
def mapsheetsref12_text.l0 : Nat → Int → Int → ByteArray → Option (ByteArray)
 | 0, _, _, _ => none
 | k + 1, x0, x1, x5 => if x0 > 0 then ((some (([(wrap64 (48 + (Int.tmod x0 10))) % 256] : List Int) : List Int)).bind fun y291 => (if (strOfNums y291).size + x5.size ≤ 9223372036854775807 then (mapsheetsref12_text.l0 k (wrap64 (Int.tdiv x0 10)) x1 ((strOfNums y291) ++ x5)) else (none))) else (if (x5.size : Int) < x1 then ((some (([(wrap64 (48 + (Int.tmod x0 10))) % 256] : List Int) : List Int)).bind fun y294 => (if (strOfNums y294).size + x5.size ≤ 9223372036854775807 then (mapsheetsref12_text.l0 k (wrap64 (Int.tdiv x0 10)) x1 ((strOfNums y294) ++ x5)) else (none))) else (some x5))
def mapsheetsref12_text.f (k : Nat) (a0 : Int) (a1 : Int) : Option (ByteArray) := mapsheetsref12_text.l0 k a0 a1 (⟨#[]⟩ : ByteArray)
theorem mapsheetsref12_text.mono_l : ∀ k, (∀ y0 y1 y2, LeO (mapsheetsref12_text.l0 k y0 y1 y2) (mapsheetsref12_text.l0 (k + 1) y0 y1 y2))
 | 0 => fun _ _ _ r h => by simp [mapsheetsref12_text.l0] at h
 | k + 1 => by
  have ih0 := mapsheetsref12_text.mono_l k
  ·intro y0 y1 y2
   unfold mapsheetsref12_text.l0
   repeat' first
   | (with_reducible exact ih0 _ _ _)
   | (with_reducible exact LeO.refl _)
   | (with_reducible exact LeO.none _)
   | (with_reducible refine LeO.ite ?_ ?_)
   | (with_reducible refine LeO.bind ?_ (fun _ => ?_))
   | exact ih0 _ _ _
   | exact LeO.none _
   | refine LeO.ite ?_ ?_
   | refine LeO.bind ?_ (fun _ => ?_)
theorem mapsheetsref12_text.mono : ∀ a0 a1 k, LeO (mapsheetsref12_text.f k a0 a1) (mapsheetsref12_text.f (k + 1) a0 a1) := by
 intro a0 a1 k
 have ih0 := mapsheetsref12_text.mono_l k
 unfold mapsheetsref12_text.f
 repeat' first
   | (with_reducible exact ih0 _ _ _)
   | (with_reducible exact LeO.refl _)
   | (with_reducible exact LeO.none _)
   | (with_reducible refine LeO.ite ?_ ?_)
   | (with_reducible refine LeO.bind ?_ (fun _ => ?_))
   | exact ih0 _ _ _
   | exact LeO.none _
   | refine LeO.ite ?_ ?_
   | refine LeO.bind ?_ (fun _ => ?_)
set_option maxHeartbeats 8000000 in
set_option maxRecDepth 100000 in
theorem mapsheetsref12_text.calls (k : Nat) (a0 : Int) (a1 : Int) (r : ByteArray) (w : World) (h : mapsheetsref12_text.f k a0 a1 = some r) :
  Calls Try.prog 38 #[.int .i64 a0, .int .i64 a1] w fun e w' => e = .returned (.string r) ∧ Below w.heap.size w w' := by
 have HB := Aside0.mk (Below.refl w.heap.size w)
 have H : (mapsheetsref12_text.l0 k a0 a1 (⟨#[]⟩ : ByteArray)) = some r := h
 clear h
 have H' := Aside0.mk H
 clear H
 go_enter Try.func38, Try.ntmps38
 go_wp2
 go_loopg [0, 5] k (fun kq v0 v5 w' => ∃ (x0_1 : Int) (x5_1 : ByteArray), v0 = .int .i64 x0_1 ∧ v5 = .string x5_1 ∧ Aside0 (mapsheetsref12_text.l0 kq x0_1 a1 x5_1 = some r) ∧ Aside0 (kq ≤ k) ∧ Aside0 (Below w.heap.size w w'))
 case atStart => exact ⟨(a0), ((⟨#[]⟩ : ByteArray)), (by first | rfl | (simp; done) | (simp [*]; done)), (by first | rfl | (simp; done) | (simp [*]; done)), H', ⟨Nat.le_refl _⟩, ⟨by repeat (first | (with_reducible first | exact HB.out | apply ba | apply bn | apply bd) | exact HB.out)⟩⟩
 case round =>
  clear H'
  try clear p2
  obtain ⟨x0_1, x5_1, rfl, rfl, HA, HK1, HB⟩ := hrel
  cases gk with
  | zero => exact absurd HA.out (by simp [mapsheetsref12_text.l0])
  | succ k1 =>
   have H := HA.out
   clear HA
   simp only [mapsheetsref12_text.l0] at H
   by_cases c3 : x0_1 > 0
   ·rw [if_pos c3] at H
    have c3b0 : decide (0 < x0_1) = true := decide_eq_true c3
    clear c3
    obtain ⟨y291, hy291⟩ : ∃ y_ : List Int, y_ = (([(wrap64 (48 + (Int.tmod x0_1 10))) % 256] : List Int)) := ⟨_, rfl⟩
    replace H : (if (strOfNums y291).size + x5_1.size ≤ 9223372036854775807 then (mapsheetsref12_text.l0 k1 (wrap64 (Int.tdiv x0_1 10)) a1 ((strOfNums y291) ++ x5_1)) else (none)) = some r := by first | (rw [hy291]; with_reducible exact H) | (have H2_ := (Option.bind_some _ _).symm.trans H; rw [hy291]; with_reducible exact H2_) | (have H2_ := (Option.bind_some _ _).symm.trans H; with_reducible exact H2_) | with_reducible exact H | (rw [hy291]; exact H) | exact H
    have Ny291 := Aside0.mk hy291
    clear hy291
    by_cases c4 : (strOfNums y291).size + x5_1.size ≤ 9223372036854775807
    ·rw [if_pos c4] at H
     have c4b0 := eq_true c4
     have c4b1 : decide ((strOfNums y291).size + x5_1.size ≤ 9223372036854775807) = true := decide_eq_true c4
     try have c4b2 : (9223372036854775807 < (strOfNums y291).size + x5_1.size) = False := eq_false (Nat.not_lt.2 c4)
     have H' := Aside0.mk H
     clear H
     go_wp2_with (first | ((with_reducible refine gate_dst (N := 18) rfl ?_); (try (refine gate_guard (by rfl) ?_; dsimp only)); refine Kd.R_lit (Kd.int .u8) _ 5 ?hg (N := 18) ?hd (xs := ([(wrap64 (48 + (Int.tmod x0_1 10))) % 256] : List Int)) (inner := [.int .u8 ((wrap64 (48 + (Int.tmod x0_1 10))) % 256)]) (ok := fun _ => True) (okp := fun _ => True) ?hr ?hp (fun _ hk => hk) trivial (Below.refl _ _) (Nat.le_refl _) (by simp) ?_; (case hd => rfl); (case hg => rfl); (case hr => first | (go_simp; done) | (go_simp; rfl)); (case hp => exact (Reps.one (show Kd.M (Kd.int .u8) _ _ _ ((wrap64 (48 + (Int.tmod x0_1 10))) % 256) [.int .u8 ((wrap64 (48 + (Int.tmod x0_1 10))) % 256)] from rfl) (Reps.none _ _))); intro v292 w5 ho6 hb hg_ hnew_; clear hg_ hnew_; (first | rw [← Ny291.out] at ho6 | (simp only [Int.reduceToNat] at ho6; rw [← Ny291.out] at ho6)); have n0_ := Aside0.mk (Kd.R_lower ho6 (below_size (by repeat (first | (with_reducible first | exact HB.out | apply ba | apply bn | apply bd) | exact HB.out)))); have n1_ := Aside0.mk (below_step (by repeat (first | (with_reducible first | exact HB.out | apply ba | apply bn | apply bd) | exact HB.out)) hb); clear HB; have HO293 := n0_; have HB := n1_; clear n0_ n1_; clear hb ho6; have hcv7 := own_string (P := Try.prog) Try.underlying63 Try.underlying5 Try.underlying9 (Kd.own_of_R HO293.out)))
     go_roundg k1
     case measure => have := HK1.out; omega
     case rel => exact ⟨(wrap64 (Int.tdiv x0_1 10)), ((strOfNums y291) ++ x5_1), (by first | rfl | (simp; done) | (simp [*]; done)), (by first | rfl | (simp; done) | (simp [*]; done)), H', ⟨by have := HK1.out; omega⟩, ⟨by repeat (first | (with_reducible first | exact HB.out | apply ba | apply bn | apply bd) | exact HB.out)⟩⟩
    ·rw [if_neg c4] at H
     exact absurd H (by simp)
   ·rw [if_neg c3] at H
    have c3b0 : decide (0 < x0_1) = false := decide_eq_false c3
    clear c3
    by_cases c8 : (x5_1.size : Int) < a1
    ·rw [if_pos c8] at H
     have c8b0 : decide ((x5_1.size : Int) < a1) = true := decide_eq_true c8
     clear c8
     obtain ⟨y294, hy294⟩ : ∃ y_ : List Int, y_ = (([(wrap64 (48 + (Int.tmod x0_1 10))) % 256] : List Int)) := ⟨_, rfl⟩
     replace H : (if (strOfNums y294).size + x5_1.size ≤ 9223372036854775807 then (mapsheetsref12_text.l0 k1 (wrap64 (Int.tdiv x0_1 10)) a1 ((strOfNums y294) ++ x5_1)) else (none)) = some r := by first | (rw [hy294]; with_reducible exact H) | (have H2_ := (Option.bind_some _ _).symm.trans H; rw [hy294]; with_reducible exact H2_) | (have H2_ := (Option.bind_some _ _).symm.trans H; with_reducible exact H2_) | with_reducible exact H | (rw [hy294]; exact H) | exact H
     have Ny294 := Aside0.mk hy294
     clear hy294
     by_cases c9 : (strOfNums y294).size + x5_1.size ≤ 9223372036854775807
     ·rw [if_pos c9] at H
      have c9b0 := eq_true c9
      have c9b1 : decide ((strOfNums y294).size + x5_1.size ≤ 9223372036854775807) = true := decide_eq_true c9
      try have c9b2 : (9223372036854775807 < (strOfNums y294).size + x5_1.size) = False := eq_false (Nat.not_lt.2 c9)
      have H' := Aside0.mk H
      clear H
      go_wp2_with (first | ((with_reducible refine gate_dst (N := 18) rfl ?_); (try (refine gate_guard (by rfl) ?_; dsimp only)); refine Kd.R_lit (Kd.int .u8) _ 5 ?hg (N := 18) ?hd (xs := ([(wrap64 (48 + (Int.tmod x0_1 10))) % 256] : List Int)) (inner := [.int .u8 ((wrap64 (48 + (Int.tmod x0_1 10))) % 256)]) (ok := fun _ => True) (okp := fun _ => True) ?hr ?hp (fun _ hk => hk) trivial (Below.refl _ _) (Nat.le_refl _) (by simp) ?_; (case hd => rfl); (case hg => rfl); (case hr => first | (go_simp; done) | (go_simp; rfl)); (case hp => exact (Reps.one (show Kd.M (Kd.int .u8) _ _ _ ((wrap64 (48 + (Int.tmod x0_1 10))) % 256) [.int .u8 ((wrap64 (48 + (Int.tmod x0_1 10))) % 256)] from rfl) (Reps.none _ _))); intro v295 w10 ho11 hb hg_ hnew_; clear hg_ hnew_; (first | rw [← Ny294.out] at ho11 | (simp only [Int.reduceToNat] at ho11; rw [← Ny294.out] at ho11)); have n0_ := Aside0.mk (Kd.R_lower ho11 (below_size (by repeat (first | (with_reducible first | exact HB.out | apply ba | apply bn | apply bd) | exact HB.out)))); have n1_ := Aside0.mk (below_step (by repeat (first | (with_reducible first | exact HB.out | apply ba | apply bn | apply bd) | exact HB.out)) hb); clear HB; have HO296 := n0_; have HB := n1_; clear n0_ n1_; clear hb ho11; have hcv12 := own_string (P := Try.prog) Try.underlying63 Try.underlying5 Try.underlying9 (Kd.own_of_R HO296.out)))
      go_roundg k1
      case measure => have := HK1.out; omega
      case rel => exact ⟨(wrap64 (Int.tdiv x0_1 10)), ((strOfNums y294) ++ x5_1), (by first | rfl | (simp; done) | (simp [*]; done)), (by first | rfl | (simp; done) | (simp [*]; done)), H', ⟨by have := HK1.out; omega⟩, ⟨by repeat (first | (with_reducible first | exact HB.out | apply ba | apply bn | apply bd) | exact HB.out)⟩⟩
     ·rw [if_neg c9] at H
      exact absurd H (by simp)
    ·rw [if_neg c8] at H
     have c8b0 : decide ((x5_1.size : Int) < a1) = false := decide_eq_false c8
     clear c8
     obtain rfl := Option.some.inj H
     go_wp2
     go_ret
     exact ⟨by first | rfl | (simp [errW_none, errW_some] <;> rfl) | (simp [*, errW_none, errW_some] <;> rfl), by repeat (first | (with_reducible first | exact HB.out | apply ba | apply bn | apply bd) | exact HB.out)⟩

/-! ### mapsheetsref12_write: function 27 -/
def mapsheetsref12_write.f (k : Nat) (a0 : Int) (a1 : ByteArray) (a2 : ByteArray) : Option (ByteArray) := if a0 < 0 then ((mapsheetsref12_text.f k (wrap64 (Int.tdiv (wrap64 (-a0)) 3600)) 1).bind fun t297 => (if t297.size + 1 ≤ 9223372036854775807 then ((mapsheetsref12_text.f k (Int.tmod (wrap64 (Int.tdiv (wrap64 (-a0)) 60)) 60) 2).bind fun t298 => (if (t297 ++ (⟨#[45]⟩ : ByteArray)).size + t298.size ≤ 9223372036854775807 then (if ((t297 ++ (⟨#[45]⟩ : ByteArray)) ++ t298).size + 1 ≤ 9223372036854775807 then ((mapsheetsref12_text.f k (Int.tmod (wrap64 (-a0)) 60) 2).bind fun t299 => (if (((t297 ++ (⟨#[45]⟩ : ByteArray)) ++ t298) ++ (⟨#[45]⟩ : ByteArray)).size + t299.size ≤ 9223372036854775807 then (if ((((t297 ++ (⟨#[45]⟩ : ByteArray)) ++ t298) ++ (⟨#[45]⟩ : ByteArray)) ++ t299).size + a2.size ≤ 9223372036854775807 then (some (((((t297 ++ (⟨#[45]⟩ : ByteArray)) ++ t298) ++ (⟨#[45]⟩ : ByteArray)) ++ t299) ++ a2)) else (none)) else (none))) else (none)) else (none))) else (none))) else ((mapsheetsref12_text.f k (wrap64 (Int.tdiv a0 3600)) 1).bind fun t300 => (if t300.size + 1 ≤ 9223372036854775807 then ((mapsheetsref12_text.f k (Int.tmod (wrap64 (Int.tdiv a0 60)) 60) 2).bind fun t301 => (if (t300 ++ (⟨#[45]⟩ : ByteArray)).size + t301.size ≤ 9223372036854775807 then (if ((t300 ++ (⟨#[45]⟩ : ByteArray)) ++ t301).size + 1 ≤ 9223372036854775807 then ((mapsheetsref12_text.f k (Int.tmod a0 60) 2).bind fun t302 => (if (((t300 ++ (⟨#[45]⟩ : ByteArray)) ++ t301) ++ (⟨#[45]⟩ : ByteArray)).size + t302.size ≤ 9223372036854775807 then (if ((((t300 ++ (⟨#[45]⟩ : ByteArray)) ++ t301) ++ (⟨#[45]⟩ : ByteArray)) ++ t302).size + a1.size ≤ 9223372036854775807 then (some (((((t300 ++ (⟨#[45]⟩ : ByteArray)) ++ t301) ++ (⟨#[45]⟩ : ByteArray)) ++ t302) ++ a1)) else (none)) else (none))) else (none)) else (none))) else (none)))
theorem mapsheetsref12_write.mono : ∀ a0 a1 a2 k, LeO (mapsheetsref12_write.f k a0 a1 a2) (mapsheetsref12_write.f (k + 1) a0 a1 a2) := by
 intro a0 a1 a2 k
 unfold mapsheetsref12_write.f
 repeat' first
   | (with_reducible exact mapsheetsref12_text.mono _ _ _)
   | (with_reducible exact LeO.refl _)
   | (with_reducible exact LeO.none _)
   | (with_reducible refine LeO.ite ?_ ?_)
   | (with_reducible refine LeO.bind ?_ (fun _ => ?_))
   | exact mapsheetsref12_text.mono _ _ _
   | exact LeO.none _
   | refine LeO.ite ?_ ?_
   | refine LeO.bind ?_ (fun _ => ?_)
set_option maxHeartbeats 8000000 in
set_option maxRecDepth 100000 in
theorem mapsheetsref12_write.calls (k : Nat) (a0 : Int) (a1 : ByteArray) (a2 : ByteArray) (r : ByteArray) (w : World) (h : mapsheetsref12_write.f k a0 a1 a2 = some r) :
  Calls Try.prog 27 #[.int .i64 a0, .string a1, .string a2] w fun e w' => e = .returned (.string r) ∧ Below w.heap.size w w' := by
 have HB := Aside0.mk (Below.refl w.heap.size w)
 have H : (if a0 < 0 then ((mapsheetsref12_text.f k (wrap64 (Int.tdiv (wrap64 (-a0)) 3600)) 1).bind fun t297 => (if t297.size + 1 ≤ 9223372036854775807 then ((mapsheetsref12_text.f k (Int.tmod (wrap64 (Int.tdiv (wrap64 (-a0)) 60)) 60) 2).bind fun t298 => (if (t297 ++ (⟨#[45]⟩ : ByteArray)).size + t298.size ≤ 9223372036854775807 then (if ((t297 ++ (⟨#[45]⟩ : ByteArray)) ++ t298).size + 1 ≤ 9223372036854775807 then ((mapsheetsref12_text.f k (Int.tmod (wrap64 (-a0)) 60) 2).bind fun t299 => (if (((t297 ++ (⟨#[45]⟩ : ByteArray)) ++ t298) ++ (⟨#[45]⟩ : ByteArray)).size + t299.size ≤ 9223372036854775807 then (if ((((t297 ++ (⟨#[45]⟩ : ByteArray)) ++ t298) ++ (⟨#[45]⟩ : ByteArray)) ++ t299).size + a2.size ≤ 9223372036854775807 then (some (((((t297 ++ (⟨#[45]⟩ : ByteArray)) ++ t298) ++ (⟨#[45]⟩ : ByteArray)) ++ t299) ++ a2)) else (none)) else (none))) else (none)) else (none))) else (none))) else ((mapsheetsref12_text.f k (wrap64 (Int.tdiv a0 3600)) 1).bind fun t300 => (if t300.size + 1 ≤ 9223372036854775807 then ((mapsheetsref12_text.f k (Int.tmod (wrap64 (Int.tdiv a0 60)) 60) 2).bind fun t301 => (if (t300 ++ (⟨#[45]⟩ : ByteArray)).size + t301.size ≤ 9223372036854775807 then (if ((t300 ++ (⟨#[45]⟩ : ByteArray)) ++ t301).size + 1 ≤ 9223372036854775807 then ((mapsheetsref12_text.f k (Int.tmod a0 60) 2).bind fun t302 => (if (((t300 ++ (⟨#[45]⟩ : ByteArray)) ++ t301) ++ (⟨#[45]⟩ : ByteArray)).size + t302.size ≤ 9223372036854775807 then (if ((((t300 ++ (⟨#[45]⟩ : ByteArray)) ++ t301) ++ (⟨#[45]⟩ : ByteArray)) ++ t302).size + a1.size ≤ 9223372036854775807 then (some (((((t300 ++ (⟨#[45]⟩ : ByteArray)) ++ t301) ++ (⟨#[45]⟩ : ByteArray)) ++ t302) ++ a1)) else (none)) else (none))) else (none)) else (none))) else (none)))) = some r := h
 clear h
 by_cases c4 : a0 < 0
 ·rw [if_pos c4] at H
  have c4b0 : decide (a0 < 0) = true := decide_eq_true c4
  clear c4
  replace H := Option.bind_eq_some_iff.mp H
  obtain ⟨t297, A50, H⟩ := H
  replace H : (if t297.size + 1 ≤ 9223372036854775807 then ((mapsheetsref12_text.f k (Int.tmod (wrap64 (Int.tdiv (wrap64 (-a0)) 60)) 60) 2).bind fun t298 => (if (t297 ++ (⟨#[45]⟩ : ByteArray)).size + t298.size ≤ 9223372036854775807 then (if ((t297 ++ (⟨#[45]⟩ : ByteArray)) ++ t298).size + 1 ≤ 9223372036854775807 then ((mapsheetsref12_text.f k (Int.tmod (wrap64 (-a0)) 60) 2).bind fun t299 => (if (((t297 ++ (⟨#[45]⟩ : ByteArray)) ++ t298) ++ (⟨#[45]⟩ : ByteArray)).size + t299.size ≤ 9223372036854775807 then (if ((((t297 ++ (⟨#[45]⟩ : ByteArray)) ++ t298) ++ (⟨#[45]⟩ : ByteArray)) ++ t299).size + a2.size ≤ 9223372036854775807 then (some (((((t297 ++ (⟨#[45]⟩ : ByteArray)) ++ t298) ++ (⟨#[45]⟩ : ByteArray)) ++ t299) ++ a2)) else (none)) else (none))) else (none)) else (none))) else (none)) = some r := H
  have A5 := Aside0.mk A50
  clear A50
  by_cases c6 : t297.size + 1 ≤ 9223372036854775807
  ·rw [if_pos c6] at H
   have c6b0 := eq_true c6
   have c6b1 : decide (t297.size + 1 ≤ 9223372036854775807) = true := decide_eq_true c6
   try have c6b2 : (9223372036854775807 < t297.size + 1) = False := eq_false (Nat.not_lt.2 c6)
   replace H := Option.bind_eq_some_iff.mp H
   obtain ⟨t298, A70, H⟩ := H
   replace H : (if (t297 ++ (⟨#[45]⟩ : ByteArray)).size + t298.size ≤ 9223372036854775807 then (if ((t297 ++ (⟨#[45]⟩ : ByteArray)) ++ t298).size + 1 ≤ 9223372036854775807 then ((mapsheetsref12_text.f k (Int.tmod (wrap64 (-a0)) 60) 2).bind fun t299 => (if (((t297 ++ (⟨#[45]⟩ : ByteArray)) ++ t298) ++ (⟨#[45]⟩ : ByteArray)).size + t299.size ≤ 9223372036854775807 then (if ((((t297 ++ (⟨#[45]⟩ : ByteArray)) ++ t298) ++ (⟨#[45]⟩ : ByteArray)) ++ t299).size + a2.size ≤ 9223372036854775807 then (some (((((t297 ++ (⟨#[45]⟩ : ByteArray)) ++ t298) ++ (⟨#[45]⟩ : ByteArray)) ++ t299) ++ a2)) else (none)) else (none))) else (none)) else (none)) = some r := H
   have A7 := Aside0.mk A70
   clear A70
   by_cases c8 : (t297 ++ (⟨#[45]⟩ : ByteArray)).size + t298.size ≤ 9223372036854775807
   ·rw [if_pos c8] at H
    have c8b0 := eq_true c8
    have c8b1 : decide ((t297 ++ (⟨#[45]⟩ : ByteArray)).size + t298.size ≤ 9223372036854775807) = true := decide_eq_true c8
    try have c8b2 : (9223372036854775807 < (t297 ++ (⟨#[45]⟩ : ByteArray)).size + t298.size) = False := eq_false (Nat.not_lt.2 c8)
    try have c8b3 : (9223372036854775807 < t297.size + 1 + t298.size) = False := eq_false (by have h_ := Nat.not_lt.2 c8; simp only [ByteArray.size_append] at h_; exact h_)
    by_cases c9 : ((t297 ++ (⟨#[45]⟩ : ByteArray)) ++ t298).size + 1 ≤ 9223372036854775807
    ·rw [if_pos c9] at H
     have c9b0 := eq_true c9
     have c9b1 : decide (((t297 ++ (⟨#[45]⟩ : ByteArray)) ++ t298).size + 1 ≤ 9223372036854775807) = true := decide_eq_true c9
     try have c9b2 : (9223372036854775807 < ((t297 ++ (⟨#[45]⟩ : ByteArray)) ++ t298).size + 1) = False := eq_false (Nat.not_lt.2 c9)
     try have c9b3 : (9223372036854775807 < t297.size + 1 + t298.size + 1) = False := eq_false (by have h_ := Nat.not_lt.2 c9; simp only [ByteArray.size_append] at h_; exact h_)
     replace H := Option.bind_eq_some_iff.mp H
     obtain ⟨t299, A100, H⟩ := H
     replace H : (if (((t297 ++ (⟨#[45]⟩ : ByteArray)) ++ t298) ++ (⟨#[45]⟩ : ByteArray)).size + t299.size ≤ 9223372036854775807 then (if ((((t297 ++ (⟨#[45]⟩ : ByteArray)) ++ t298) ++ (⟨#[45]⟩ : ByteArray)) ++ t299).size + a2.size ≤ 9223372036854775807 then (some (((((t297 ++ (⟨#[45]⟩ : ByteArray)) ++ t298) ++ (⟨#[45]⟩ : ByteArray)) ++ t299) ++ a2)) else (none)) else (none)) = some r := H
     have A10 := Aside0.mk A100
     clear A100
     by_cases c11 : (((t297 ++ (⟨#[45]⟩ : ByteArray)) ++ t298) ++ (⟨#[45]⟩ : ByteArray)).size + t299.size ≤ 9223372036854775807
     ·rw [if_pos c11] at H
      have c11b0 := eq_true c11
      have c11b1 : decide ((((t297 ++ (⟨#[45]⟩ : ByteArray)) ++ t298) ++ (⟨#[45]⟩ : ByteArray)).size + t299.size ≤ 9223372036854775807) = true := decide_eq_true c11
      try have c11b2 : (9223372036854775807 < (((t297 ++ (⟨#[45]⟩ : ByteArray)) ++ t298) ++ (⟨#[45]⟩ : ByteArray)).size + t299.size) = False := eq_false (Nat.not_lt.2 c11)
      try have c11b3 : (9223372036854775807 < t297.size + 1 + t298.size + 1 + t299.size) = False := eq_false (by have h_ := Nat.not_lt.2 c11; simp only [ByteArray.size_append] at h_; exact h_)
      by_cases c12 : ((((t297 ++ (⟨#[45]⟩ : ByteArray)) ++ t298) ++ (⟨#[45]⟩ : ByteArray)) ++ t299).size + a2.size ≤ 9223372036854775807
      ·rw [if_pos c12] at H
       have c12b0 := eq_true c12
       have c12b1 : decide (((((t297 ++ (⟨#[45]⟩ : ByteArray)) ++ t298) ++ (⟨#[45]⟩ : ByteArray)) ++ t299).size + a2.size ≤ 9223372036854775807) = true := decide_eq_true c12
       try have c12b2 : (9223372036854775807 < ((((t297 ++ (⟨#[45]⟩ : ByteArray)) ++ t298) ++ (⟨#[45]⟩ : ByteArray)) ++ t299).size + a2.size) = False := eq_false (Nat.not_lt.2 c12)
       try have c12b3 : (9223372036854775807 < t297.size + 1 + t298.size + 1 + t299.size + a2.size) = False := eq_false (by have h_ := Nat.not_lt.2 c12; simp only [ByteArray.size_append] at h_; exact h_)
       obtain rfl := Option.some.inj H
       go_enter Try.func27, Try.ntmps27
       go_wp2_with (first | ((with_reducible refine gate_callee (f := 38) rfl ?_); refine goesL_ (some 14) rfl rfl Try.func38 (by kernel_rfl) rfl #[.int .i64 (wrap64 (Int.tdiv (wrap64 (-a0)) 3600)), .int .i64 1] rfl (by (try simp only [List.map_toArray, List.map_cons, List.map_nil]); first | done | rfl | (simp only [List.length_drop, List.length_take]; rfl)) ?_; (with_reducible refine (mapsheetsref12_text.calls k (wrap64 (Int.tdiv (wrap64 (-a0)) 3600)) 1 t297 _ A5.out).mono ?_); rintro e w13 ⟨rfl, hb⟩; refine ⟨_, rfl, ?_⟩; have n0_ := Aside0.mk (below_step (by repeat (first | (with_reducible first | exact HB.out | apply ba | apply bn | apply bd) | exact HB.out)) hb); clear HB; have HB := n0_; clear n0_; (try clear hb); (try clear hb2); (try clear hk); (try clear hi)) | ((with_reducible refine gate_callee (f := 38) rfl ?_); refine goesL_ (some 19) rfl rfl Try.func38 (by kernel_rfl) rfl #[.int .i64 (Int.tmod (wrap64 (Int.tdiv (wrap64 (-a0)) 60)) 60), .int .i64 2] rfl (by (try simp only [List.map_toArray, List.map_cons, List.map_nil]); first | done | rfl | (simp only [List.length_drop, List.length_take]; rfl)) ?_; (with_reducible refine (mapsheetsref12_text.calls k (Int.tmod (wrap64 (Int.tdiv (wrap64 (-a0)) 60)) 60) 2 t298 _ A7.out).mono ?_); rintro e w14 ⟨rfl, hb⟩; refine ⟨_, rfl, ?_⟩; have n0_ := Aside0.mk (below_step (by repeat (first | (with_reducible first | exact HB.out | apply ba | apply bn | apply bd) | exact HB.out)) hb); clear HB; have HB := n0_; clear n0_; (try clear hb); (try clear hb2); (try clear hk); (try clear hi)) | ((with_reducible refine gate_callee (f := 38) rfl ?_); refine goesL_ (some 24) rfl rfl Try.func38 (by kernel_rfl) rfl #[.int .i64 (Int.tmod (wrap64 (-a0)) 60), .int .i64 2] rfl (by (try simp only [List.map_toArray, List.map_cons, List.map_nil]); first | done | rfl | (simp only [List.length_drop, List.length_take]; rfl)) ?_; (with_reducible refine (mapsheetsref12_text.calls k (Int.tmod (wrap64 (-a0)) 60) 2 t299 _ A10.out).mono ?_); rintro e w15 ⟨rfl, hb⟩; refine ⟨_, rfl, ?_⟩; have n0_ := Aside0.mk (below_step (by repeat (first | (with_reducible first | exact HB.out | apply ba | apply bn | apply bd) | exact HB.out)) hb); clear HB; have HB := n0_; clear n0_; (try clear hb); (try clear hb2); (try clear hk); (try clear hi)))
       go_ret
       exact ⟨by first | rfl | (simp [errW_none, errW_some] <;> rfl) | (simp [*, errW_none, errW_some] <;> rfl), by repeat (first | (with_reducible first | exact HB.out | apply ba | apply bn | apply bd) | exact HB.out)⟩
      ·rw [if_neg c12] at H
       exact absurd H (by simp)
     ·rw [if_neg c11] at H
      exact absurd H (by simp)
    ·rw [if_neg c9] at H
     exact absurd H (by simp)
   ·rw [if_neg c8] at H
    exact absurd H (by simp)
  ·rw [if_neg c6] at H
   exact absurd H (by simp)
 ·rw [if_neg c4] at H
  have c4b0 : decide (a0 < 0) = false := decide_eq_false c4
  clear c4
  replace H := Option.bind_eq_some_iff.mp H
  obtain ⟨t300, A160, H⟩ := H
  replace H : (if t300.size + 1 ≤ 9223372036854775807 then ((mapsheetsref12_text.f k (Int.tmod (wrap64 (Int.tdiv a0 60)) 60) 2).bind fun t301 => (if (t300 ++ (⟨#[45]⟩ : ByteArray)).size + t301.size ≤ 9223372036854775807 then (if ((t300 ++ (⟨#[45]⟩ : ByteArray)) ++ t301).size + 1 ≤ 9223372036854775807 then ((mapsheetsref12_text.f k (Int.tmod a0 60) 2).bind fun t302 => (if (((t300 ++ (⟨#[45]⟩ : ByteArray)) ++ t301) ++ (⟨#[45]⟩ : ByteArray)).size + t302.size ≤ 9223372036854775807 then (if ((((t300 ++ (⟨#[45]⟩ : ByteArray)) ++ t301) ++ (⟨#[45]⟩ : ByteArray)) ++ t302).size + a1.size ≤ 9223372036854775807 then (some (((((t300 ++ (⟨#[45]⟩ : ByteArray)) ++ t301) ++ (⟨#[45]⟩ : ByteArray)) ++ t302) ++ a1)) else (none)) else (none))) else (none)) else (none))) else (none)) = some r := H
  have A16 := Aside0.mk A160
  clear A160
  by_cases c17 : t300.size + 1 ≤ 9223372036854775807
  ·rw [if_pos c17] at H
   have c17b0 := eq_true c17
   have c17b1 : decide (t300.size + 1 ≤ 9223372036854775807) = true := decide_eq_true c17
   try have c17b2 : (9223372036854775807 < t300.size + 1) = False := eq_false (Nat.not_lt.2 c17)
   replace H := Option.bind_eq_some_iff.mp H
   obtain ⟨t301, A180, H⟩ := H
   replace H : (if (t300 ++ (⟨#[45]⟩ : ByteArray)).size + t301.size ≤ 9223372036854775807 then (if ((t300 ++ (⟨#[45]⟩ : ByteArray)) ++ t301).size + 1 ≤ 9223372036854775807 then ((mapsheetsref12_text.f k (Int.tmod a0 60) 2).bind fun t302 => (if (((t300 ++ (⟨#[45]⟩ : ByteArray)) ++ t301) ++ (⟨#[45]⟩ : ByteArray)).size + t302.size ≤ 9223372036854775807 then (if ((((t300 ++ (⟨#[45]⟩ : ByteArray)) ++ t301) ++ (⟨#[45]⟩ : ByteArray)) ++ t302).size + a1.size ≤ 9223372036854775807 then (some (((((t300 ++ (⟨#[45]⟩ : ByteArray)) ++ t301) ++ (⟨#[45]⟩ : ByteArray)) ++ t302) ++ a1)) else (none)) else (none))) else (none)) else (none)) = some r := H
   have A18 := Aside0.mk A180
   clear A180
   by_cases c19 : (t300 ++ (⟨#[45]⟩ : ByteArray)).size + t301.size ≤ 9223372036854775807
   ·rw [if_pos c19] at H
    have c19b0 := eq_true c19
    have c19b1 : decide ((t300 ++ (⟨#[45]⟩ : ByteArray)).size + t301.size ≤ 9223372036854775807) = true := decide_eq_true c19
    try have c19b2 : (9223372036854775807 < (t300 ++ (⟨#[45]⟩ : ByteArray)).size + t301.size) = False := eq_false (Nat.not_lt.2 c19)
    try have c19b3 : (9223372036854775807 < t300.size + 1 + t301.size) = False := eq_false (by have h_ := Nat.not_lt.2 c19; simp only [ByteArray.size_append] at h_; exact h_)
    by_cases c20 : ((t300 ++ (⟨#[45]⟩ : ByteArray)) ++ t301).size + 1 ≤ 9223372036854775807
    ·rw [if_pos c20] at H
     have c20b0 := eq_true c20
     have c20b1 : decide (((t300 ++ (⟨#[45]⟩ : ByteArray)) ++ t301).size + 1 ≤ 9223372036854775807) = true := decide_eq_true c20
     try have c20b2 : (9223372036854775807 < ((t300 ++ (⟨#[45]⟩ : ByteArray)) ++ t301).size + 1) = False := eq_false (Nat.not_lt.2 c20)
     try have c20b3 : (9223372036854775807 < t300.size + 1 + t301.size + 1) = False := eq_false (by have h_ := Nat.not_lt.2 c20; simp only [ByteArray.size_append] at h_; exact h_)
     replace H := Option.bind_eq_some_iff.mp H
     obtain ⟨t302, A210, H⟩ := H
     replace H : (if (((t300 ++ (⟨#[45]⟩ : ByteArray)) ++ t301) ++ (⟨#[45]⟩ : ByteArray)).size + t302.size ≤ 9223372036854775807 then (if ((((t300 ++ (⟨#[45]⟩ : ByteArray)) ++ t301) ++ (⟨#[45]⟩ : ByteArray)) ++ t302).size + a1.size ≤ 9223372036854775807 then (some (((((t300 ++ (⟨#[45]⟩ : ByteArray)) ++ t301) ++ (⟨#[45]⟩ : ByteArray)) ++ t302) ++ a1)) else (none)) else (none)) = some r := H
     have A21 := Aside0.mk A210
     clear A210
     by_cases c22 : (((t300 ++ (⟨#[45]⟩ : ByteArray)) ++ t301) ++ (⟨#[45]⟩ : ByteArray)).size + t302.size ≤ 9223372036854775807
     ·rw [if_pos c22] at H
      have c22b0 := eq_true c22
      have c22b1 : decide ((((t300 ++ (⟨#[45]⟩ : ByteArray)) ++ t301) ++ (⟨#[45]⟩ : ByteArray)).size + t302.size ≤ 9223372036854775807) = true := decide_eq_true c22
      try have c22b2 : (9223372036854775807 < (((t300 ++ (⟨#[45]⟩ : ByteArray)) ++ t301) ++ (⟨#[45]⟩ : ByteArray)).size + t302.size) = False := eq_false (Nat.not_lt.2 c22)
      try have c22b3 : (9223372036854775807 < t300.size + 1 + t301.size + 1 + t302.size) = False := eq_false (by have h_ := Nat.not_lt.2 c22; simp only [ByteArray.size_append] at h_; exact h_)
      by_cases c23 : ((((t300 ++ (⟨#[45]⟩ : ByteArray)) ++ t301) ++ (⟨#[45]⟩ : ByteArray)) ++ t302).size + a1.size ≤ 9223372036854775807
      ·rw [if_pos c23] at H
       have c23b0 := eq_true c23
       have c23b1 : decide (((((t300 ++ (⟨#[45]⟩ : ByteArray)) ++ t301) ++ (⟨#[45]⟩ : ByteArray)) ++ t302).size + a1.size ≤ 9223372036854775807) = true := decide_eq_true c23
       try have c23b2 : (9223372036854775807 < ((((t300 ++ (⟨#[45]⟩ : ByteArray)) ++ t301) ++ (⟨#[45]⟩ : ByteArray)) ++ t302).size + a1.size) = False := eq_false (Nat.not_lt.2 c23)
       try have c23b3 : (9223372036854775807 < t300.size + 1 + t301.size + 1 + t302.size + a1.size) = False := eq_false (by have h_ := Nat.not_lt.2 c23; simp only [ByteArray.size_append] at h_; exact h_)
       obtain rfl := Option.some.inj H
       go_enter Try.func27, Try.ntmps27
       go_wp2_with (first | ((with_reducible refine gate_callee (f := 38) rfl ?_); refine goesL_ (some 14) rfl rfl Try.func38 (by kernel_rfl) rfl #[.int .i64 (wrap64 (Int.tdiv a0 3600)), .int .i64 1] rfl (by (try simp only [List.map_toArray, List.map_cons, List.map_nil]); first | done | rfl | (simp only [List.length_drop, List.length_take]; rfl)) ?_; (with_reducible refine (mapsheetsref12_text.calls k (wrap64 (Int.tdiv a0 3600)) 1 t300 _ A16.out).mono ?_); rintro e w24 ⟨rfl, hb⟩; refine ⟨_, rfl, ?_⟩; have n0_ := Aside0.mk (below_step (by repeat (first | (with_reducible first | exact HB.out | apply ba | apply bn | apply bd) | exact HB.out)) hb); clear HB; have HB := n0_; clear n0_; (try clear hb); (try clear hb2); (try clear hk); (try clear hi)) | ((with_reducible refine gate_callee (f := 38) rfl ?_); refine goesL_ (some 19) rfl rfl Try.func38 (by kernel_rfl) rfl #[.int .i64 (Int.tmod (wrap64 (Int.tdiv a0 60)) 60), .int .i64 2] rfl (by (try simp only [List.map_toArray, List.map_cons, List.map_nil]); first | done | rfl | (simp only [List.length_drop, List.length_take]; rfl)) ?_; (with_reducible refine (mapsheetsref12_text.calls k (Int.tmod (wrap64 (Int.tdiv a0 60)) 60) 2 t301 _ A18.out).mono ?_); rintro e w25 ⟨rfl, hb⟩; refine ⟨_, rfl, ?_⟩; have n0_ := Aside0.mk (below_step (by repeat (first | (with_reducible first | exact HB.out | apply ba | apply bn | apply bd) | exact HB.out)) hb); clear HB; have HB := n0_; clear n0_; (try clear hb); (try clear hb2); (try clear hk); (try clear hi)) | ((with_reducible refine gate_callee (f := 38) rfl ?_); refine goesL_ (some 24) rfl rfl Try.func38 (by kernel_rfl) rfl #[.int .i64 (Int.tmod a0 60), .int .i64 2] rfl (by (try simp only [List.map_toArray, List.map_cons, List.map_nil]); first | done | rfl | (simp only [List.length_drop, List.length_take]; rfl)) ?_; (with_reducible refine (mapsheetsref12_text.calls k (Int.tmod a0 60) 2 t302 _ A21.out).mono ?_); rintro e w26 ⟨rfl, hb⟩; refine ⟨_, rfl, ?_⟩; have n0_ := Aside0.mk (below_step (by repeat (first | (with_reducible first | exact HB.out | apply ba | apply bn | apply bd) | exact HB.out)) hb); clear HB; have HB := n0_; clear n0_; (try clear hb); (try clear hb2); (try clear hk); (try clear hi)))
       go_ret
       exact ⟨by first | rfl | (simp [errW_none, errW_some] <;> rfl) | (simp [*, errW_none, errW_some] <;> rfl), by repeat (first | (with_reducible first | exact HB.out | apply ba | apply bn | apply bd) | exact HB.out)⟩
      ·rw [if_neg c23] at H
       exact absurd H (by simp)
     ·rw [if_neg c22] at H
      exact absurd H (by simp)
    ·rw [if_neg c20] at H
     exact absurd H (by simp)
   ·rw [if_neg c19] at H
    exact absurd H (by simp)
  ·rw [if_neg c17] at H
   exact absurd H (by simp)

/-! ### mapsheetsref12_Print: function 18 -/
def mapsheetsref12_Print.f (k : Nat) (a0_0 : Int) (a0_1 : Int) : Option (ByteArray) := (mapsheetsref12_Valid.f a0_0 a0_1).bind fun t304 => (if t304 = true then ((mapsheetsref12_write.f k a0_1 (⟨#[78]⟩ : ByteArray) (⟨#[83]⟩ : ByteArray)).bind fun t305 => (if t305.size + 1 ≤ 9223372036854775807 then ((mapsheetsref12_write.f k a0_0 (⟨#[69]⟩ : ByteArray) (⟨#[87]⟩ : ByteArray)).bind fun t306 => (if (t305 ++ (⟨#[32]⟩ : ByteArray)).size + t306.size ≤ 9223372036854775807 then (some ((t305 ++ (⟨#[32]⟩ : ByteArray)) ++ t306)) else (none))) else (none))) else (some (⟨#[]⟩ : ByteArray)))
theorem mapsheetsref12_Print.mono : ∀ a0 a1 k, LeO (mapsheetsref12_Print.f k a0 a1) (mapsheetsref12_Print.f (k + 1) a0 a1) := by
 intro a0 a1 k
 unfold mapsheetsref12_Print.f
 repeat' first
   | (with_reducible exact mapsheetsref12_write.mono _ _ _ _)
   | (with_reducible exact LeO.refl _)
   | (with_reducible exact LeO.none _)
   | (with_reducible refine LeO.ite ?_ ?_)
   | (with_reducible refine LeO.bind ?_ (fun _ => ?_))
   | exact mapsheetsref12_write.mono _ _ _ _
   | exact LeO.none _
   | refine LeO.ite ?_ ?_
   | refine LeO.bind ?_ (fun _ => ?_)
def mapsheetsref12_Print.T3 : Bool × List (List Nat × List Nat) := (true, [([], []), ([0], [0]), ([1], [1]), ([2], [2]), ([], []), ([4], [4]), ([5, 2], [5]), ([3, 6], [3, 6]), ([7, 6, 0, 1, 2, 3, 4, 5, 6, 7], [7])])
def mapsheetsref12_Print.B3 : List Nat := [0, 1, 3, 7, 0, 16, 55, 127, 255]
theorem mapsheetsref12_Print.tab3 : rtab .any (opsOf Try.f18 3) = mapsheetsref12_Print.T3 := by kernel_rfl
theorem mapsheetsref12_Print.bits3 : waitsOk mapsheetsref12_Print.T3.2 mapsheetsref12_Print.B3 = true := by kernel_rfl
set_option maxHeartbeats 8000000 in
set_option maxRecDepth 100000 in
theorem mapsheetsref12_Print.calls (k : Nat) (a0_0 : Int) (a0_1 : Int) (r : ByteArray) (w : World) (h : mapsheetsref12_Print.f k a0_0 a0_1 = some r) :
  Calls Try.prog 18 #[.agg #[.int .i64 a0_0, .int .i64 a0_1]] w fun e w' => e = .returned (.string r) ∧ Below w.heap.size w w' := by
 have hu23 := Try.underlying23
 have HB := Aside0.mk (Below.refl w.heap.size w)
 have H : ((mapsheetsref12_Valid.f a0_0 a0_1).bind fun t304 => (if t304 = true then ((mapsheetsref12_write.f k a0_1 (⟨#[78]⟩ : ByteArray) (⟨#[83]⟩ : ByteArray)).bind fun t305 => (if t305.size + 1 ≤ 9223372036854775807 then ((mapsheetsref12_write.f k a0_0 (⟨#[69]⟩ : ByteArray) (⟨#[87]⟩ : ByteArray)).bind fun t306 => (if (t305 ++ (⟨#[32]⟩ : ByteArray)).size + t306.size ≤ 9223372036854775807 then (some ((t305 ++ (⟨#[32]⟩ : ByteArray)) ++ t306)) else (none))) else (none))) else (some (⟨#[]⟩ : ByteArray)))) = some r := h
 clear h
 replace H := Option.bind_eq_some_iff.mp H
 obtain ⟨t304, A20, H⟩ := H
 replace H : (if t304 = true then ((mapsheetsref12_write.f k a0_1 (⟨#[78]⟩ : ByteArray) (⟨#[83]⟩ : ByteArray)).bind fun t305 => (if t305.size + 1 ≤ 9223372036854775807 then ((mapsheetsref12_write.f k a0_0 (⟨#[69]⟩ : ByteArray) (⟨#[87]⟩ : ByteArray)).bind fun t306 => (if (t305 ++ (⟨#[32]⟩ : ByteArray)).size + t306.size ≤ 9223372036854775807 then (some ((t305 ++ (⟨#[32]⟩ : ByteArray)) ++ t306)) else (none))) else (none))) else (some (⟨#[]⟩ : ByteArray))) = some r := H
 have A2 := Aside0.mk A20
 clear A20
 by_cases c3 : t304 = true
 ·subst c3
  have H1 : ((mapsheetsref12_write.f k a0_1 (⟨#[78]⟩ : ByteArray) (⟨#[83]⟩ : ByteArray)).bind fun t305 => (if t305.size + 1 ≤ 9223372036854775807 then ((mapsheetsref12_write.f k a0_0 (⟨#[69]⟩ : ByteArray) (⟨#[87]⟩ : ByteArray)).bind fun t306 => (if (t305 ++ (⟨#[32]⟩ : ByteArray)).size + t306.size ≤ 9223372036854775807 then (some ((t305 ++ (⟨#[32]⟩ : ByteArray)) ++ t306)) else (none))) else (none))) = some r := by rw [if_pos rfl] at H; exact H
  clear H
  have H := H1
  clear H1
  replace H := Option.bind_eq_some_iff.mp H
  obtain ⟨t305, A40, H⟩ := H
  replace H : (if t305.size + 1 ≤ 9223372036854775807 then ((mapsheetsref12_write.f k a0_0 (⟨#[69]⟩ : ByteArray) (⟨#[87]⟩ : ByteArray)).bind fun t306 => (if (t305 ++ (⟨#[32]⟩ : ByteArray)).size + t306.size ≤ 9223372036854775807 then (some ((t305 ++ (⟨#[32]⟩ : ByteArray)) ++ t306)) else (none))) else (none)) = some r := H
  have A4 := Aside0.mk A40
  clear A40
  by_cases c5 : t305.size + 1 ≤ 9223372036854775807
  ·rw [if_pos c5] at H
   have c5b0 := eq_true c5
   have c5b1 : decide (t305.size + 1 ≤ 9223372036854775807) = true := decide_eq_true c5
   try have c5b2 : (9223372036854775807 < t305.size + 1) = False := eq_false (Nat.not_lt.2 c5)
   replace H := Option.bind_eq_some_iff.mp H
   obtain ⟨t306, A60, H⟩ := H
   replace H : (if (t305 ++ (⟨#[32]⟩ : ByteArray)).size + t306.size ≤ 9223372036854775807 then (some ((t305 ++ (⟨#[32]⟩ : ByteArray)) ++ t306)) else (none)) = some r := H
   have A6 := Aside0.mk A60
   clear A60
   by_cases c7 : (t305 ++ (⟨#[32]⟩ : ByteArray)).size + t306.size ≤ 9223372036854775807
   ·rw [if_pos c7] at H
    have c7b0 := eq_true c7
    have c7b1 : decide ((t305 ++ (⟨#[32]⟩ : ByteArray)).size + t306.size ≤ 9223372036854775807) = true := decide_eq_true c7
    try have c7b2 : (9223372036854775807 < (t305 ++ (⟨#[32]⟩ : ByteArray)).size + t306.size) = False := eq_false (Nat.not_lt.2 c7)
    try have c7b3 : (9223372036854775807 < t305.size + 1 + t306.size) = False := eq_false (by have h_ := Nat.not_lt.2 c7; simp only [ByteArray.size_append] at h_; exact h_)
    obtain rfl := Option.some.inj H
    go_enter Try.func18, Try.ntmps18
    try go_wp2_with (first | ((with_reducible refine gate_dst (N := 1) rfl ?_); refine box_event ?hg (N := 1) ?hd (cs := #[.int .i64 a0_0, .int .i64 a0_1]) (t := 23) ?hr ?_; (case hd => rfl); (case hg => rfl); (case hr => first | (go_simp; done) | (go_simp; rfl)); intro gb303 hg w8 hbox hb; have n0_ := Aside0.mk (below_step (by repeat (first | (with_reducible first | exact HB.out | apply ba | apply bn | apply bd) | exact HB.out)) hb); have n1_ := Aside0.mk (hbox); have n2_ := Aside0.mk ((by rw [hg]; exact (below_size (by repeat (first | (with_reducible first | exact HB.out | apply ba | apply bn | apply bd) | exact HB.out))) : w.heap.size ≤ gb303)); have n3_ := Aside0.mk ((by rw [hg]; exact (below_size (by repeat (first | (with_reducible first | exact HB.out | apply ba | apply bn | apply bd) | exact HB.out))) : w.heap.size ≤ gb303)); clear HB; have HB := n0_; have BK303 := n1_; have GW303 := n2_; have GE303 := n3_; clear n0_ n1_ n2_ n3_; clear hb hbox hg; have hcz9_0 : w8.cell? ⟨gb303, 0, none⟩ = some (.int .i64 a0_0) := (blk_cell BK303.out 0).trans rfl; have hcz9_1 : w8.cell? ⟨gb303, 1, none⟩ = some (.int .i64 a0_1) := (blk_cell BK303.out 1).trans rfl; have hfz9_0 := blk_frozen BK303.out 0; have hfz9_1 := blk_frozen BK303.out 1) | ((with_reducible refine gate_callee (f := 11) rfl ?_); refine goesL_ (some 4) rfl rfl Try.func11 (by kernel_rfl) rfl #[.agg #[.int .i64 a0_0, .int .i64 a0_1]] rfl (by (try simp only [List.map_toArray, List.map_cons, List.map_nil]); first | done | rfl | (simp only [List.length_drop, List.length_take]; rfl)) ?_; (with_reducible refine (mapsheetsref12_Valid.calls a0_0 a0_1 true _ A2.out).mono ?_); rintro e w10 ⟨rfl, hb⟩; refine ⟨_, rfl, ?_⟩; have n0_ := Aside0.mk (blk_below (g := gb303) (o := .cells #[.int .i64 a0_0, .int .i64 a0_1] 23 (0, 0)) (by (with_reducible repeat (first | refine n_ ?_ _ | refine d_ ?_ | refine a_ ?_ _)); exact BK303.out) hb); have n1_ := Aside0.mk (below_step (by repeat (first | (with_reducible first | exact HB.out | apply ba | apply bn | apply bd | refine bs ?_ GE303.out) | exact HB.out)) hb); clear BK303; clear HB; have BK303 := n0_; have HB := n1_; clear n0_ n1_; (try clear hb); (try clear hb2); (try clear hk); (try clear hi)))
    have n0_ := Aside0.mk (blk_drew BK303.out)
    have n1_ := Aside0.mk (below_drew1 HB.out)
    clear BK303
    clear HB
    have BK303 := n0_
    have HB := n1_
    clear n0_ n1_
    refine start_ (n := 9) (S := fun w' => w'.cell? ⟨gb303, 0, none⟩ = some (.int .i64 a0_0) ∧ w'.cell? ⟨gb303, 1, none⟩ = some (.int .i64 a0_1)) (ds := []) #[false, false, false, false, false, false, false, false, false] (by kernel_rfl) rfl rfl ⟨(blk_cell BK303.out 0).trans rfl, (blk_cell BK303.out 1).trans rfl⟩ (fun hHeld => ?_); refine with_tabW mapsheetsref12_Print.tab3 mapsheetsref12_Print.bits3 (fun HT_ HW_ => ?_)
    generalize w10.drew = w11 at BK303 HB hHeld ⊢
    refine pure_ (i := 0) (N := some 6) (v := ?_) (a' := ?_) #[true, false, false, false, false, false, false, false, false] rfl rfl (any_of HT_.out (by kernel_rfl)) (fun _ _ _ h => h) (Or.inl ⟨by rfl, ?_⟩) ?_ ?_
    rotate_left
    ·intro w'
     go_simp
     with_reducible rfl
    rotate_left
    ·simp only [Act.put, s1, s2, s3, i64_w, i32_w]
     rfl
    refine pure_ (i := 4) (N := some 10) (v := ?_) (a' := ?_) #[true, false, false, false, true, false, false, false, false] rfl rfl (any_of HT_.out (by kernel_rfl)) (fun _ _ _ h => h) (Or.inl ⟨by rfl, ?_⟩) ?_ ?_
    rotate_left
    ·intro w'
     go_simp
     with_reducible rfl
    rotate_left
    ·simp only [Act.put, s1, s2, s3, i64_w, i32_w]
     rfl
    refine take_ (i := 1) (N := some 7) (v := ?_) (a' := ?_) #[true, true, false, false, true, false, false, false, false] rfl rfl (take_ofW HT_.out HW_.out (by kernel_rfl)) (fun _ _ _ h => h) (Or.inl ⟨by rfl, ?_⟩) hHeld ?_ ?_
    rotate_left
    ·rintro w' ⟨s0, s1⟩
     go_simp
     with_reducible rfl
    rotate_left
    ·simp only [Act.put, s1, s2, s3, i64_w, i32_w]
     rfl
    refine take_ (i := 5) (N := some 11) (v := ?_) (a' := ?_) #[true, true, false, false, true, true, false, false, false] rfl rfl (take_ofW HT_.out HW_.out (by kernel_rfl)) (fun _ _ _ h => h) (Or.inl ⟨by rfl, ?_⟩) hHeld ?_ ?_
    rotate_left
    ·rintro w' ⟨s0, s1⟩
     go_simp
     with_reducible rfl
    rotate_left
    ·simp only [Act.put, s1, s2, s3, i64_w, i32_w]
     rfl
    refine one_ (i := 2) (N := some 8) #[true, true, true, false, true, true, false, false, false] rfl rfl (one_of HT_.out (by kernel_rfl)) (by decide) (fun K hK => ?_)
    refine goes_ Try.func27 (by kernel_rfl) rfl #[.int .i64 a0_1, .string (⟨#[78]⟩ : ByteArray), .string (⟨#[83]⟩ : ByteArray)] (by rfl) rfl rfl (by (try simp only [List.map_toArray, List.map_cons, List.map_nil]); first | done | rfl | (simp only [List.length_drop, List.length_take]; rfl)) ?_
    with_reducible refine (mapsheetsref12_write.calls k a0_1 (⟨#[78]⟩ : ByteArray) (⟨#[83]⟩ : ByteArray) t305 _ A4.out).mono ?_
    rintro e w12 ⟨rfl, hb⟩
    refine ⟨_, rfl, ?_⟩
    have n0_ := Aside0.mk (blk_below (g := gb303) (o := .cells #[.int .i64 a0_0, .int .i64 a0_1] 23 (0, 0)) (by (with_reducible repeat (first | refine n_ ?_ _ | refine d_ ?_ | refine a_ ?_ _)); exact BK303.out) hb)
    have n1_ := Aside0.mk (below_step (by repeat (first | (with_reducible first | exact HB.out | apply ba | apply bn | apply bd | refine bs ?_ GE303.out) | exact HB.out)) hb)
    clear BK303
    clear HB
    have BK303 := n0_
    have HB := n1_
    clear n0_ n1_
    (try clear hb)
    (try clear hb2)
    (try clear hk)
    (try clear hi)
    refine hK.out _ _ ⟨(blk_cell BK303.out 0).trans rfl, (blk_cell BK303.out 1).trans rfl⟩ (fun hHeld => ?_)
    clear hK K
    refine norm_ (a' := ?_) ?_ ?_
    rotate_left
    ·show Act.put _ (some 8) _ = _
     simp only [Act.put, s1, s2, s3, i64_w, i32_w]
     rfl
    refine pure_ (i := 3) (N := some 9) (v := ?_) (a' := ?_) #[true, true, true, true, true, true, false, false, false] rfl rfl (any_of HT_.out (by kernel_rfl)) (fun _ _ _ h => h) (Or.inl ⟨by rfl, ?_⟩) ?_ ?_
    rotate_left
    ·intro w'
     go_simp
     with_reducible rfl
    rotate_left
    ·simp only [Act.put, s1, s2, s3, i64_w, i32_w]
     rfl
    refine one_ (i := 6) (N := some 12) #[true, true, true, true, true, true, true, false, false] rfl rfl (one_of HT_.out (by kernel_rfl)) (by decide) (fun K hK => ?_)
    refine goes_ Try.func27 (by kernel_rfl) rfl #[.int .i64 a0_0, .string (⟨#[69]⟩ : ByteArray), .string (⟨#[87]⟩ : ByteArray)] (by rfl) rfl rfl (by (try simp only [List.map_toArray, List.map_cons, List.map_nil]); first | done | rfl | (simp only [List.length_drop, List.length_take]; rfl)) ?_
    with_reducible refine (mapsheetsref12_write.calls k a0_0 (⟨#[69]⟩ : ByteArray) (⟨#[87]⟩ : ByteArray) t306 _ A6.out).mono ?_
    rintro e w13 ⟨rfl, hb⟩
    refine ⟨_, rfl, ?_⟩
    have n0_ := Aside0.mk (blk_below (g := gb303) (o := .cells #[.int .i64 a0_0, .int .i64 a0_1] 23 (0, 0)) (by (with_reducible repeat (first | refine n_ ?_ _ | refine d_ ?_ | refine a_ ?_ _)); exact BK303.out) hb)
    have n1_ := Aside0.mk (below_step (by repeat (first | (with_reducible first | exact HB.out | apply ba | apply bn | apply bd | refine bs ?_ GE303.out) | exact HB.out)) hb)
    clear BK303
    clear HB
    have BK303 := n0_
    have HB := n1_
    clear n0_ n1_
    (try clear hb)
    (try clear hb2)
    (try clear hk)
    (try clear hi)
    refine hK.out _ _ ⟨(blk_cell BK303.out 0).trans rfl, (blk_cell BK303.out 1).trans rfl⟩ (fun hHeld => ?_)
    clear hK K
    refine norm_ (a' := ?_) ?_ ?_
    rotate_left
    ·show Act.put _ (some 12) _ = _
     simp only [Act.put, s1, s2, s3, i64_w, i32_w]
     rfl
    refine pure_ (i := 7) (N := some 13) (v := ?_) (a' := ?_) #[true, true, true, true, true, true, true, true, false] rfl rfl (any_of HT_.out (by kernel_rfl)) (fun _ _ _ h => h) (Or.inl ⟨by rfl, ?_⟩) ?_ ?_
    rotate_left
    ·intro w'
     go_simp
     with_reducible rfl
    rotate_left
    ·simp only [Act.put, s1, s2, s3, i64_w, i32_w]
     rfl
    refine pure_ (i := 8) (N := some 2) (v := ?_) (a' := ?_) #[true, true, true, true, true, true, true, true, true] rfl rfl (any_of HT_.out (by kernel_rfl)) (fun _ _ _ h => h) (Or.inl ⟨by rfl, ?_⟩) ?_ ?_
    rotate_left
    ·intro w'
     go_simp
     with_reducible rfl
    rotate_left
    ·simp only [Act.put, s1, s2, s3, i64_w, i32_w]
     rfl
    refine done_ (done_of HT_.out (by kernel_rfl)) ?_
    try go_wp2
    go_ret
    exact ⟨by first | rfl | (simp [errW_none, errW_some] <;> rfl) | (simp [*, errW_none, errW_some] <;> rfl), by repeat (first | (with_reducible first | exact HB.out | apply ba | apply bn | apply bd | refine bs ?_ GE303.out) | exact HB.out)⟩
   ·rw [if_neg c7] at H
    exact absurd H (by simp)
  ·rw [if_neg c5] at H
   exact absurd H (by simp)
 ·replace c3 := Bool.eq_false_iff.mpr c3
  subst c3
  have H1 : (some (⟨#[]⟩ : ByteArray)) = some r := by rw [if_neg (show ¬ (false = true) by decide)] at H; exact H
  clear H
  have H := H1
  clear H1
  obtain rfl := Option.some.inj H
  go_enter Try.func18, Try.ntmps18
  go_wp2_with (first | ((with_reducible refine gate_dst (N := 1) rfl ?_); refine box_event ?hg (N := 1) ?hd (cs := #[.int .i64 a0_0, .int .i64 a0_1]) (t := 23) ?hr ?_; (case hd => rfl); (case hg => rfl); (case hr => first | (go_simp; done) | (go_simp; rfl)); intro gb303 hg w14 hbox hb; have n0_ := Aside0.mk (below_step (by repeat (first | (with_reducible first | exact HB.out | apply ba | apply bn | apply bd) | exact HB.out)) hb); have n1_ := Aside0.mk (hbox); have n2_ := Aside0.mk ((by rw [hg]; exact (below_size (by repeat (first | (with_reducible first | exact HB.out | apply ba | apply bn | apply bd) | exact HB.out))) : w.heap.size ≤ gb303)); have n3_ := Aside0.mk ((by rw [hg]; exact (below_size (by repeat (first | (with_reducible first | exact HB.out | apply ba | apply bn | apply bd) | exact HB.out))) : w.heap.size ≤ gb303)); clear HB; have HB := n0_; have BK303 := n1_; have GW303 := n2_; have GE303 := n3_; clear n0_ n1_ n2_ n3_; clear hb hbox hg; have hcz15_0 : w14.cell? ⟨gb303, 0, none⟩ = some (.int .i64 a0_0) := (blk_cell BK303.out 0).trans rfl; have hcz15_1 : w14.cell? ⟨gb303, 1, none⟩ = some (.int .i64 a0_1) := (blk_cell BK303.out 1).trans rfl; have hfz15_0 := blk_frozen BK303.out 0; have hfz15_1 := blk_frozen BK303.out 1) | ((with_reducible refine gate_callee (f := 11) rfl ?_); refine goesL_ (some 4) rfl rfl Try.func11 (by kernel_rfl) rfl #[.agg #[.int .i64 a0_0, .int .i64 a0_1]] rfl (by (try simp only [List.map_toArray, List.map_cons, List.map_nil]); first | done | rfl | (simp only [List.length_drop, List.length_take]; rfl)) ?_; (with_reducible refine (mapsheetsref12_Valid.calls a0_0 a0_1 false _ A2.out).mono ?_); rintro e w16 ⟨rfl, hb⟩; refine ⟨_, rfl, ?_⟩; have n0_ := Aside0.mk (blk_below (g := gb303) (o := .cells #[.int .i64 a0_0, .int .i64 a0_1] 23 (0, 0)) (by (with_reducible repeat (first | refine n_ ?_ _ | refine d_ ?_ | refine a_ ?_ _)); exact BK303.out) hb); have n1_ := Aside0.mk (below_step (by repeat (first | (with_reducible first | exact HB.out | apply ba | apply bn | apply bd | refine bs ?_ GE303.out) | exact HB.out)) hb); clear BK303; clear HB; have BK303 := n0_; have HB := n1_; clear n0_ n1_; (try clear hb); (try clear hb2); (try clear hk); (try clear hi)))
  go_ret
  exact ⟨by first | rfl | (simp [errW_none, errW_some] <;> rfl) | (simp [*, errW_none, errW_some] <;> rfl), by repeat (first | (with_reducible first | exact HB.out | apply ba | apply bn | apply bd | refine bs ?_ GE303.out) | exact HB.out)⟩

/-! ### mapsheetslaw12_SpherePrints: function 6 -/
def mapsheetslaw12_SpherePrints.f (k : Nat) (a0_0 : Int) (a0_1 : Int) : Option (Bool) := (sphere_Print.f k a0_0 a0_1).bind fun t308 => ((mapsheetsref12_Print.f k a0_0 a0_1).bind fun t309 => (if t308.toList = t309.toList then ((mapsheetslaw12_awake.f k).bind fun t310 => (some t310)) else (none)))
theorem mapsheetslaw12_SpherePrints.mono : ∀ a0 a1 k, LeO (mapsheetslaw12_SpherePrints.f k a0 a1) (mapsheetslaw12_SpherePrints.f (k + 1) a0 a1) := by
 intro a0 a1 k
 unfold mapsheetslaw12_SpherePrints.f
 repeat' first
   | (with_reducible exact mapsheetslaw12_awake.mono _)
   | (with_reducible exact mapsheetsref12_Print.mono _ _ _)
   | (with_reducible exact sphere_Print.mono _ _ _)
   | (with_reducible exact LeO.refl _)
   | (with_reducible exact LeO.none _)
   | (with_reducible refine LeO.ite ?_ ?_)
   | (with_reducible refine LeO.bind ?_ (fun _ => ?_))
   | exact mapsheetslaw12_awake.mono _
   | exact mapsheetsref12_Print.mono _ _ _
   | exact sphere_Print.mono _ _ _
   | exact LeO.none _
   | refine LeO.ite ?_ ?_
   | refine LeO.bind ?_ (fun _ => ?_)
def mapsheetslaw12_SpherePrints.T1 : Bool × List (List Nat × List Nat) := (true, [([], []), ([0], [0]), ([], []), ([2, 1], [2]), ([1, 3], [1, 3]), ([4, 3], [4]), ([5, 5], [5]), ([5, 6], [5, 6]), ([7, 6, 0, 1, 2, 3, 4, 5, 6, 7], [7])])
def mapsheetslaw12_SpherePrints.B1 : List Nat := [0, 1, 0, 7, 15, 31, 63, 127, 255]
theorem mapsheetslaw12_SpherePrints.tab1 : rtab .any (opsOf Try.f6 1) = mapsheetslaw12_SpherePrints.T1 := by kernel_rfl
theorem mapsheetslaw12_SpherePrints.bits1 : waitsOk mapsheetslaw12_SpherePrints.T1.2 mapsheetslaw12_SpherePrints.B1 = true := by kernel_rfl
set_option maxHeartbeats 8000000 in
set_option maxRecDepth 100000 in
theorem mapsheetslaw12_SpherePrints.calls (k : Nat) (a0_0 : Int) (a0_1 : Int) (r : Bool) (w : World) (h : mapsheetslaw12_SpherePrints.f k a0_0 a0_1 = some r) :
  Calls Try.prog 6 #[.agg #[.int .i64 a0_0, .int .i64 a0_1]] w fun e w' => e = .returned (.bool r) ∧ Below w.heap.size w w' := by
 have hu23 := Try.underlying23
 have HB := Aside0.mk (Below.refl w.heap.size w)
 have H : ((sphere_Print.f k a0_0 a0_1).bind fun t308 => ((mapsheetsref12_Print.f k a0_0 a0_1).bind fun t309 => (if t308.toList = t309.toList then ((mapsheetslaw12_awake.f k).bind fun t310 => (some t310)) else (none)))) = some r := h
 clear h
 replace H := Option.bind_eq_some_iff.mp H
 obtain ⟨t308, A20, H⟩ := H
 replace H : ((mapsheetsref12_Print.f k a0_0 a0_1).bind fun t309 => (if t308.toList = t309.toList then ((mapsheetslaw12_awake.f k).bind fun t310 => (some t310)) else (none))) = some r := H
 have A2 := Aside0.mk A20
 clear A20
 replace H := Option.bind_eq_some_iff.mp H
 obtain ⟨t309, A30, H⟩ := H
 replace H : (if t308.toList = t309.toList then ((mapsheetslaw12_awake.f k).bind fun t310 => (some t310)) else (none)) = some r := H
 have A3 := Aside0.mk A30
 clear A30
 by_cases c4 : t308.toList = t309.toList
 ·rw [if_pos c4] at H
  have c4b0 : (t308.toList == t309.toList) = true := beq_iff_eq.mpr c4
  have c4b1 : (t308.toList != t309.toList) = false := bne_eq_false_iff_eq.mpr c4
  clear c4
  replace H := Option.bind_eq_some_iff.mp H
  obtain ⟨t310, A50, H⟩ := H
  replace H : (some t310) = some r := H
  have A5 := Aside0.mk A50
  clear A50
  obtain rfl := Option.some.inj H
  go_enter Try.func6, Try.ntmps6
  try go_wp2_with (first | ((with_reducible refine gate_dst (N := 1) rfl ?_); refine box_event ?hg (N := 1) ?hd (cs := #[.int .i64 a0_0, .int .i64 a0_1]) (t := 23) ?hr ?_; (case hd => rfl); (case hg => rfl); (case hr => first | (go_simp; done) | (go_simp; rfl)); intro gb307 hg w6 hbox hb; have n0_ := Aside0.mk (below_step (by repeat (first | (with_reducible first | exact HB.out | apply ba | apply bn | apply bd) | exact HB.out)) hb); have n1_ := Aside0.mk (hbox); have n2_ := Aside0.mk ((by rw [hg]; exact (below_size (by repeat (first | (with_reducible first | exact HB.out | apply ba | apply bn | apply bd) | exact HB.out))) : w.heap.size ≤ gb307)); have n3_ := Aside0.mk ((by rw [hg]; exact (below_size (by repeat (first | (with_reducible first | exact HB.out | apply ba | apply bn | apply bd) | exact HB.out))) : w.heap.size ≤ gb307)); clear HB; have HB := n0_; have BK307 := n1_; have GW307 := n2_; have GE307 := n3_; clear n0_ n1_ n2_ n3_; clear hb hbox hg))
  have n0_ := Aside0.mk (blk_drew BK307.out)
  have n1_ := Aside0.mk (below_drew1 HB.out)
  clear BK307
  clear HB
  have BK307 := n0_
  have HB := n1_
  clear n0_ n1_
  refine start_ (n := 9) (S := fun w' => w'.cell? ⟨gb307, 0, none⟩ = some (.int .i64 a0_0) ∧ w'.cell? ⟨gb307, 1, none⟩ = some (.int .i64 a0_1)) (ds := []) #[false, false, false, false, false, false, false, false, false] (by kernel_rfl) rfl rfl ⟨(blk_cell BK307.out 0).trans rfl, (blk_cell BK307.out 1).trans rfl⟩ (fun hHeld => ?_); refine with_tabW mapsheetslaw12_SpherePrints.tab1 mapsheetslaw12_SpherePrints.bits1 (fun HT_ HW_ => ?_)
  generalize w6.drew = w7 at BK307 HB hHeld ⊢
  refine take_ (i := 0) (N := some 3) (v := ?_) (a' := ?_) #[true, false, false, false, false, false, false, false, false] rfl rfl (take_ofW HT_.out HW_.out (by kernel_rfl)) (fun _ _ _ h => h) (Or.inl ⟨by rfl, ?_⟩) hHeld ?_ ?_
  rotate_left
  ·rintro w' ⟨s0, s1⟩
   go_simp
   with_reducible rfl
  rotate_left
  ·simp only [Act.put, s1, s2, s3, i64_w, i32_w]
   rfl
  refine take_ (i := 2) (N := some 5) (v := ?_) (a' := ?_) #[true, false, true, false, false, false, false, false, false] rfl rfl (take_ofW HT_.out HW_.out (by kernel_rfl)) (fun _ _ _ h => h) (Or.inl ⟨by rfl, ?_⟩) hHeld ?_ ?_
  rotate_left
  ·rintro w' ⟨s0, s1⟩
   go_simp
   with_reducible rfl
  rotate_left
  ·simp only [Act.put, s1, s2, s3, i64_w, i32_w]
   rfl
  refine one_ (i := 1) (N := some 4) #[true, true, true, false, false, false, false, false, false] rfl rfl (one_of HT_.out (by kernel_rfl)) (by decide) (fun K hK => ?_)
  refine goes_ Try.func17 (by kernel_rfl) rfl #[.agg #[.int .i64 a0_0, .int .i64 a0_1]] (by rfl) rfl rfl (by (try simp only [List.map_toArray, List.map_cons, List.map_nil]); first | done | rfl | (simp only [List.length_drop, List.length_take]; rfl)) ?_
  with_reducible refine (sphere_Print.calls k a0_0 a0_1 t308 _ A2.out).mono ?_
  rintro e w8 ⟨rfl, hb⟩
  refine ⟨_, rfl, ?_⟩
  have n0_ := Aside0.mk (blk_below (g := gb307) (o := .cells #[.int .i64 a0_0, .int .i64 a0_1] 23 (0, 0)) (by (with_reducible repeat (first | refine n_ ?_ _ | refine d_ ?_ | refine a_ ?_ _)); exact BK307.out) hb)
  have n1_ := Aside0.mk (below_step (by repeat (first | (with_reducible first | exact HB.out | apply ba | apply bn | apply bd | refine bs ?_ GE307.out) | exact HB.out)) hb)
  clear BK307
  clear HB
  have BK307 := n0_
  have HB := n1_
  clear n0_ n1_
  (try clear hb)
  (try clear hb2)
  (try clear hk)
  (try clear hi)
  refine hK.out _ _ ⟨(blk_cell BK307.out 0).trans rfl, (blk_cell BK307.out 1).trans rfl⟩ (fun hHeld => ?_)
  clear hK K
  refine norm_ (a' := ?_) ?_ ?_
  rotate_left
  ·show Act.put _ (some 4) _ = _
   simp only [Act.put, s1, s2, s3, i64_w, i32_w]
   rfl
  refine one_ (i := 3) (N := some 6) #[true, true, true, true, false, false, false, false, false] rfl rfl (one_of HT_.out (by kernel_rfl)) (by decide) (fun K hK => ?_)
  refine goes_ Try.func18 (by kernel_rfl) rfl #[.agg #[.int .i64 a0_0, .int .i64 a0_1]] (by rfl) rfl rfl (by (try simp only [List.map_toArray, List.map_cons, List.map_nil]); first | done | rfl | (simp only [List.length_drop, List.length_take]; rfl)) ?_
  with_reducible refine (mapsheetsref12_Print.calls k a0_0 a0_1 t309 _ A3.out).mono ?_
  rintro e w9 ⟨rfl, hb⟩
  refine ⟨_, rfl, ?_⟩
  have n0_ := Aside0.mk (blk_below (g := gb307) (o := .cells #[.int .i64 a0_0, .int .i64 a0_1] 23 (0, 0)) (by (with_reducible repeat (first | refine n_ ?_ _ | refine d_ ?_ | refine a_ ?_ _)); exact BK307.out) hb)
  have n1_ := Aside0.mk (below_step (by repeat (first | (with_reducible first | exact HB.out | apply ba | apply bn | apply bd | refine bs ?_ GE307.out) | exact HB.out)) hb)
  clear BK307
  clear HB
  have BK307 := n0_
  have HB := n1_
  clear n0_ n1_
  (try clear hb)
  (try clear hb2)
  (try clear hk)
  (try clear hi)
  refine hK.out _ _ ⟨(blk_cell BK307.out 0).trans rfl, (blk_cell BK307.out 1).trans rfl⟩ (fun hHeld => ?_)
  clear hK K
  refine norm_ (a' := ?_) ?_ ?_
  rotate_left
  ·show Act.put _ (some 6) _ = _
   simp only [Act.put, s1, s2, s3, i64_w, i32_w]
   rfl
  refine pure_ (i := 4) (N := some 7) (v := ?_) (a' := ?_) #[true, true, true, true, true, false, false, false, false] rfl rfl (any_of HT_.out (by kernel_rfl)) (fun _ _ _ h => h) (Or.inl ⟨by rfl, ?_⟩) ?_ ?_
  rotate_left
  ·intro w'
   go_simp
   with_reducible rfl
  rotate_left
  ·simp only [Act.put, s1, s2, s3, i64_w, i32_w]
   rfl
  refine pure_ (i := 5) (N := some 8) (v := ?_) (a' := ?_) #[true, true, true, true, true, true, false, false, false] rfl rfl (any_of HT_.out (by kernel_rfl)) (fun _ _ _ h => h) (Or.inl ⟨by rfl, ?_⟩) ?_ ?_
  rotate_left
  ·intro w'
   go_simp
   with_reducible rfl
  rotate_left
  ·simp only [Act.put, s1, s2, s3, i64_w, i32_w]
   rfl
  refine one_ (i := 6) (N := some 9) #[true, true, true, true, true, true, true, false, false] rfl rfl (one_of HT_.out (by kernel_rfl)) (by decide) (fun K hK => ?_)
  refine goes_ Try.func14 (by kernel_rfl) rfl #[] (by rfl) rfl rfl (by (try simp only [List.map_toArray, List.map_cons, List.map_nil]); first | done | rfl | (simp only [List.length_drop, List.length_take]; rfl)) ?_
  with_reducible refine (mapsheetslaw12_awake.calls k  t310 _ A5.out).mono ?_
  rintro e w10 ⟨rfl, hb⟩
  refine ⟨_, rfl, ?_⟩
  have n0_ := Aside0.mk (blk_below (g := gb307) (o := .cells #[.int .i64 a0_0, .int .i64 a0_1] 23 (0, 0)) (by (with_reducible repeat (first | refine n_ ?_ _ | refine d_ ?_ | refine a_ ?_ _)); exact BK307.out) hb)
  have n1_ := Aside0.mk (below_step (by repeat (first | (with_reducible first | exact HB.out | apply ba | apply bn | apply bd | refine bs ?_ GE307.out) | exact HB.out)) hb)
  clear BK307
  clear HB
  have BK307 := n0_
  have HB := n1_
  clear n0_ n1_
  (try clear hb)
  (try clear hb2)
  (try clear hk)
  (try clear hi)
  refine hK.out _ _ ⟨(blk_cell BK307.out 0).trans rfl, (blk_cell BK307.out 1).trans rfl⟩ (fun hHeld => ?_)
  clear hK K
  refine norm_ (a' := ?_) ?_ ?_
  rotate_left
  ·show Act.put _ (some 9) _ = _
   simp only [Act.put, s1, s2, s3, i64_w, i32_w]
   rfl
  refine pure_ (i := 7) (N := some 10) (v := ?_) (a' := ?_) #[true, true, true, true, true, true, true, true, false] rfl rfl (any_of HT_.out (by kernel_rfl)) (fun _ _ _ h => h) (Or.inl ⟨by rfl, ?_⟩) ?_ ?_
  rotate_left
  ·intro w'
   go_simp
   with_reducible rfl
  rotate_left
  ·simp only [Act.put, s1, s2, s3, i64_w, i32_w]
   rfl
  refine pure_ (i := 8) (N := some 2) (v := ?_) (a' := ?_) #[true, true, true, true, true, true, true, true, true] rfl rfl (any_of HT_.out (by kernel_rfl)) (fun _ _ _ h => h) (Or.inl ⟨by rfl, ?_⟩) ?_ ?_
  rotate_left
  ·intro w'
   go_simp
   with_reducible rfl
  rotate_left
  ·simp only [Act.put, s1, s2, s3, i64_w, i32_w]
   rfl
  refine done_ (done_of HT_.out (by kernel_rfl)) ?_
  try go_wp2
  go_ret
  exact ⟨by first | rfl | (simp [errW_none, errW_some] <;> rfl) | (simp [*, errW_none, errW_some] <;> rfl), by repeat (first | (with_reducible first | exact HB.out | apply ba | apply bn | apply bd | refine bs ?_ GE307.out) | exact HB.out)⟩
 ·rw [if_neg c4] at H
  have c4b0 : (t308.toList == t309.toList) = false := beq_eq_false_iff_ne.mpr c4
  have c4b1 : (t308.toList != t309.toList) = true := bne_iff_ne.mpr c4
  exact absurd H (by simp)

/-- THE ONE PURE STATEMENT of mapsheetslaw12_SpherePrints: yours. -/
def mapsheetslaw12_SpherePrints.Pure : Prop := ∀ (a0_0 : Int) (a0_1 : Int), (Lit.int .i64 a0_0).wf = true → (Lit.int .i64 a0_1).wf = true → ∃ k, mapsheetslaw12_SpherePrints.f k a0_0 a0_1 = some true
theorem mapsheetslaw12_SpherePrints.walk (P : mapsheetslaw12_SpherePrints.Pure) (a0_0 : Int) (a0_1 : Int) (w : World) (w0_0 : (Lit.int .i64 a0_0).wf = true) (w0_1 : (Lit.int .i64 a0_1).wf = true) :
  Calls Try.prog 6 #[.agg #[.int .i64 a0_0, .int .i64 a0_1]] w fun e w' => e = .returned (.bool true) ∧ Below w.heap.size w w' := by
 obtain ⟨k, h⟩ := P a0_0 a0_1 w0_0 w0_1
 refine (mapsheetslaw12_SpherePrints.calls k a0_0 a0_1 true w h).mono ?_
 rintro e w' ⟨rfl, hd⟩
 exact ⟨rfl, hd⟩

end Go.Proofs.Yteojklacaecmpaa.P
