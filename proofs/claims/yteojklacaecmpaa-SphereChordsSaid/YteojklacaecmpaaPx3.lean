-- Written by wip/tools/xprint.py (this session's program, over the kit's print.py) for this seat.
import Derived.Test.YteojklacaecmpaaPx0
import Derived.Test.YteojklacaecmpaaPx2
namespace Go.Proofs.Yteojklacaecmpaa.P
open Go.RowKit Go.Proofs.YteojklacaecmpaaW.PrintWords Go.Proofs.YteojklacaecmpaaW.PrintLast Go.Proofs.YteojklacaecmpaaW.PrintMore
attribute [local go_sem] max2_int min2_int max_two min_two max_three min_three max_four min_four   -- for this text's walks alone
set_option linter.unusedVariables false
set_option linter.unusedSimpArgs false

/-! ### sphere_read: function 22 -/
mutual
def sphere_read.j0 : Nat → ByteArray → Int → ByteArray → Bool → Int → Int → Int → Bool → Option (Int × Int × Int × Bool × Bool)
 | 0, _, _, _, _, _, _, _, _ => none
 | k + 1, x1, x6, x8, x35, x114000, x114001, x114002, x114003 => if x35 = true then (some (x114000, x114001, x114002, x114003, false)) else (if 1 ≤ (x8.size : Int) then ((sphere_number.f (x8.extract 1 x8.size)).bind fun bt119 => (if bt119.2.1 = 2 then ((strings_HasPrefix.f bt119.2.2 (⟨#[45]⟩ : ByteArray)).bind fun t122 => (sphere_read.j1 k x1 bt119.2.2 (!t122) x6 bt119.1 x114002 x114003)) else (sphere_read.j1 k x1 bt119.2.2 true x6 bt119.1 x114002 x114003))) else (none))
def sphere_read.j1 : Nat → ByteArray → ByteArray → Bool → Int → Int → Int → Bool → Option (Int × Int × Int × Bool × Bool)
 | 0, _, _, _, _, _, _, _ => none
 | k + 1, x1, x8, x53, x114000, x114001, x114002, x114003 => if x53 = true then (some (x114000, x114001, x114002, x114003, false)) else (if 1 ≤ (x8.size : Int) then ((sphere_number.f (x8.extract 1 x8.size)).bind fun bt123 => (if bt123.2.1 = 2 then (sphere_read.j2 k x1 bt123.2.2 ((bt123.2.2.size : Int) != 1) x114000 x114001 bt123.1 x114003) else (sphere_read.j2 k x1 bt123.2.2 true x114000 x114001 bt123.1 x114003))) else (none))
def sphere_read.j2 : Nat → ByteArray → ByteArray → Bool → Int → Int → Int → Bool → Option (Int × Int × Int × Bool × Bool)
 | 0, _, _, _, _, _, _, _ => none
 | k + 1, x1, x8, x69, x114000, x114001, x114002, x114003 => if x69 = true then (some (x114000, x114001, x114002, x114003, false)) else (if 0 < (x8.size : Int) then ((strings_IndexByte.f x1 (bt x8 0)).bind fun t126 => (if t126 ≥ 0 then (if t126 = 1 then ((sphere_angle_value.f x114000 x114001 x114002 (t126 == 1)).bind fun t127 => (some (x114000, x114001, x114002, (t126 == 1), !(t127 == 0)))) else (some (x114000, x114001, x114002, (t126 == 1), !false))) else (some (x114000, x114001, x114002, (t126 == 1), false)))) else (none))
end
def sphere_read.f (k : Nat) (a0 : ByteArray) (a1 : ByteArray) : Option (Int × Int × Int × Bool × Bool) := (sphere_number.f a0).bind fun bt114 => (if bt114.2.1 < 1 then (sphere_read.j0 k a1 bt114.1 bt114.2.2 true 0 0 0 false) else (if bt114.2.1 > 3 then (sphere_read.j0 k a1 bt114.1 bt114.2.2 true 0 0 0 false) else (if 0 < (a0.size : Int) then (if (bt a0 0) = 48 then (if bt114.2.1 > 1 then (sphere_read.j0 k a1 bt114.1 bt114.2.2 true 0 0 0 false) else ((strings_HasPrefix.f bt114.2.2 (⟨#[45]⟩ : ByteArray)).bind fun t117 => (sphere_read.j0 k a1 bt114.1 bt114.2.2 (!t117) 0 0 0 false))) else ((strings_HasPrefix.f bt114.2.2 (⟨#[45]⟩ : ByteArray)).bind fun t118 => (sphere_read.j0 k a1 bt114.1 bt114.2.2 (!t118) 0 0 0 false))) else (none))))
theorem sphere_read.mono_l : ∀ k, (∀ y0 y1 y2 y3 y4 y5 y6 y7, LeO (sphere_read.j0 k y0 y1 y2 y3 y4 y5 y6 y7) (sphere_read.j0 (k + 1) y0 y1 y2 y3 y4 y5 y6 y7)) ∧ (∀ y0 y1 y2 y3 y4 y5 y6, LeO (sphere_read.j1 k y0 y1 y2 y3 y4 y5 y6) (sphere_read.j1 (k + 1) y0 y1 y2 y3 y4 y5 y6)) ∧ (∀ y0 y1 y2 y3 y4 y5 y6, LeO (sphere_read.j2 k y0 y1 y2 y3 y4 y5 y6) (sphere_read.j2 (k + 1) y0 y1 y2 y3 y4 y5 y6))
 | 0 => ⟨fun _ _ _ _ _ _ _ _ r h => by simp [sphere_read.j0] at h, fun _ _ _ _ _ _ _ r h => by simp [sphere_read.j1] at h, fun _ _ _ _ _ _ _ r h => by simp [sphere_read.j2] at h⟩
 | k + 1 => by
  obtain ⟨ih0, ih1, ih2⟩ := sphere_read.mono_l k
  refine ⟨?_, ?_, ?_⟩
  ·intro y0 y1 y2 y3 y4 y5 y6 y7
   unfold sphere_read.j0
   repeat' first
   | (with_reducible exact ih0 _ _ _ _ _ _ _ _)
   | (with_reducible exact ih1 _ _ _ _ _ _ _)
   | (with_reducible exact ih2 _ _ _ _ _ _ _)
   | (with_reducible exact LeO.refl _)
   | (with_reducible exact LeO.none _)
   | (with_reducible refine LeO.ite ?_ ?_)
   | (with_reducible refine LeO.bind ?_ (fun _ => ?_))
   | exact ih0 _ _ _ _ _ _ _ _
   | exact ih1 _ _ _ _ _ _ _
   | exact ih2 _ _ _ _ _ _ _
   | exact LeO.none _
   | refine LeO.ite ?_ ?_
   | refine LeO.bind ?_ (fun _ => ?_)
  ·intro y0 y1 y2 y3 y4 y5 y6
   unfold sphere_read.j1
   repeat' first
   | (with_reducible exact ih0 _ _ _ _ _ _ _ _)
   | (with_reducible exact ih1 _ _ _ _ _ _ _)
   | (with_reducible exact ih2 _ _ _ _ _ _ _)
   | (with_reducible exact LeO.refl _)
   | (with_reducible exact LeO.none _)
   | (with_reducible refine LeO.ite ?_ ?_)
   | (with_reducible refine LeO.bind ?_ (fun _ => ?_))
   | exact ih0 _ _ _ _ _ _ _ _
   | exact ih1 _ _ _ _ _ _ _
   | exact ih2 _ _ _ _ _ _ _
   | exact LeO.none _
   | refine LeO.ite ?_ ?_
   | refine LeO.bind ?_ (fun _ => ?_)
  ·intro y0 y1 y2 y3 y4 y5 y6
   unfold sphere_read.j2
   repeat' first
   | (with_reducible exact ih0 _ _ _ _ _ _ _ _)
   | (with_reducible exact ih1 _ _ _ _ _ _ _)
   | (with_reducible exact ih2 _ _ _ _ _ _ _)
   | (with_reducible exact LeO.refl _)
   | (with_reducible exact LeO.none _)
   | (with_reducible refine LeO.ite ?_ ?_)
   | (with_reducible refine LeO.bind ?_ (fun _ => ?_))
   | exact ih0 _ _ _ _ _ _ _ _
   | exact ih1 _ _ _ _ _ _ _
   | exact ih2 _ _ _ _ _ _ _
   | exact LeO.none _
   | refine LeO.ite ?_ ?_
   | refine LeO.bind ?_ (fun _ => ?_)
theorem sphere_read.mono : ∀ a0 a1 k, LeO (sphere_read.f k a0 a1) (sphere_read.f (k + 1) a0 a1) := by
 intro a0 a1 k
 obtain ⟨ih0, ih1, ih2⟩ := sphere_read.mono_l k
 unfold sphere_read.f
 repeat' first
   | (with_reducible exact ih0 _ _ _ _ _ _ _ _)
   | (with_reducible exact ih1 _ _ _ _ _ _ _)
   | (with_reducible exact ih2 _ _ _ _ _ _ _)
   | (with_reducible exact LeO.refl _)
   | (with_reducible exact LeO.none _)
   | (with_reducible refine LeO.ite ?_ ?_)
   | (with_reducible refine LeO.bind ?_ (fun _ => ?_))
   | exact ih0 _ _ _ _ _ _ _ _
   | exact ih1 _ _ _ _ _ _ _
   | exact ih2 _ _ _ _ _ _ _
   | exact LeO.none _
   | refine LeO.ite ?_ ?_
   | refine LeO.bind ?_ (fun _ => ?_)
def sphere_read.T13 : Bool × List (List Nat × List Nat) := (true, [([], []), ([], []), ([1], [1]), ([2], [2]), ([3], [3]), ([4, 3], [3, 4]), ([5, 3, 3], [3, 5]), ([6], [6]), ([7, 6, 6], [6, 7]), ([8, 6], [6, 8]), ([6, 9, 3], [3, 6, 9]), ([10, 3], [3, 10]), ([3, 11], [3, 11]), ([0, 8, 0, 4, 5, 7], [0]), ([12, 13, 0, 1, 2, 3, 4, 5, 6, 7, 8, 9, 10, 11, 12, 13], [12])])
def sphere_read.B13 : List Nat := [0, 0, 2, 6, 14, 30, 62, 126, 254, 510, 1022, 2046, 4094, 511, 16383]
theorem sphere_read.tab13 : rtab .any (opsOf Try.f22 13) = sphere_read.T13 := by kernel_rfl
theorem sphere_read.bits13 : waitsOk sphere_read.T13.2 sphere_read.B13 = true := by kernel_rfl
set_option maxHeartbeats 8000000 in
set_option maxRecDepth 100000 in
theorem sphere_read.calls (k : Nat) (a0 : ByteArray) (a1 : ByteArray) (r1 : Int) (r2 : Int) (r3 : Int) (r4 : Bool) (r5 : Bool) (w : World) (h : sphere_read.f k a0 a1 = some (r1, r2, r3, r4, r5)) :
  Calls Try.prog 22 #[.string a0, .string a1] w fun e w' => e = .returned (.tuple #[.agg #[.int .i64 r1, .int .i64 r2, .int .i64 r3, .bool r4], .bool r5]) ∧ Below w.heap.size w w' := by
 have hu39 := Try.underlying39
 have HB := Aside0.mk (Below.refl w.heap.size w)
 have H : ((sphere_number.f a0).bind fun bt114 => (if bt114.2.1 < 1 then (sphere_read.j0 k a1 bt114.1 bt114.2.2 true 0 0 0 false) else (if bt114.2.1 > 3 then (sphere_read.j0 k a1 bt114.1 bt114.2.2 true 0 0 0 false) else (if 0 < (a0.size : Int) then (if (bt a0 0) = 48 then (if bt114.2.1 > 1 then (sphere_read.j0 k a1 bt114.1 bt114.2.2 true 0 0 0 false) else ((strings_HasPrefix.f bt114.2.2 (⟨#[45]⟩ : ByteArray)).bind fun t117 => (sphere_read.j0 k a1 bt114.1 bt114.2.2 (!t117) 0 0 0 false))) else ((strings_HasPrefix.f bt114.2.2 (⟨#[45]⟩ : ByteArray)).bind fun t118 => (sphere_read.j0 k a1 bt114.1 bt114.2.2 (!t118) 0 0 0 false))) else (none))))) = some (r1, r2, r3, r4, r5) := h
 clear h
 replace H := Option.bind_eq_some_iff.mp H
 obtain ⟨⟨t114, t115, t116⟩, A30, H⟩ := H
 replace H : (if t115 < 1 then (sphere_read.j0 k a1 t114 t116 true 0 0 0 false) else (if t115 > 3 then (sphere_read.j0 k a1 t114 t116 true 0 0 0 false) else (if 0 < (a0.size : Int) then (if (bt a0 0) = 48 then (if t115 > 1 then (sphere_read.j0 k a1 t114 t116 true 0 0 0 false) else ((strings_HasPrefix.f t116 (⟨#[45]⟩ : ByteArray)).bind fun t117 => (sphere_read.j0 k a1 t114 t116 (!t117) 0 0 0 false))) else ((strings_HasPrefix.f t116 (⟨#[45]⟩ : ByteArray)).bind fun t118 => (sphere_read.j0 k a1 t114 t116 (!t118) 0 0 0 false))) else (none)))) = some (r1, r2, r3, r4, r5) := H
 have A3 := Aside0.mk A30
 clear A30
 have HC4 := Aside0.mk H
 clear H
 go_enter Try.func22, Try.ntmps22
 go_upto_region 2 with (first | ((with_reducible refine gate_dst (N := 4) rfl ?_); (try (refine gate_guard (by rfl) ?_; dsimp only)); refine box_event ?hg (N := 4) ?hd (cs := #[.int .i64 0, .int .i64 0, .int .i64 0, .bool false]) (t := 39) ?hr ?_; (case hd => rfl); (case hg => rfl); (case hr => first | (go_simp; done) | (go_simp; rfl)); intro gb113 hg w5 hbox hb; have n0_ := Aside0.mk (below_step (by with_reducible repeat first | exact HB.out | apply ba | apply bn | apply bd) hb); have n1_ := Aside0.mk (hbox); have n2_ := Aside0.mk ((by rw [hg]; exact (below_size (by with_reducible repeat first | exact HB.out | apply ba | apply bn | apply bd)) : w.heap.size ≤ gb113)); have n3_ := Aside0.mk ((by rw [hg]; exact (below_size (by with_reducible repeat first | exact HB.out | apply ba | apply bn | apply bd)) : w.heap.size ≤ gb113)); clear HB; have HB := n0_; have BK113 := n1_; have GW113 := n2_; have GE113 := n3_; clear n0_ n1_ n2_ n3_; clear hb hbox hg) | ((with_reducible refine gate_callee (f := 33) rfl ?_); refine goesL_ (some 12) rfl rfl Try.func33 (by kernel_rfl) rfl #[.string a0] rfl (by (try simp only [List.map_toArray, List.map_cons, List.map_nil]); first | done | rfl | (simp only [List.length_drop, List.length_take]; rfl)) ?_; (with_reducible refine (sphere_number.calls a0 t114 t115 t116 _ A3.out).mono ?_); rintro e w' ⟨rfl, ⟨nd, rfl⟩⟩; refine ⟨_, rfl, ?_⟩))
 (try simp only [Act.put, s1, s2, s3])
 go_cut [35] (fun v35 wc => ∃ (kq : Nat) (x35_3 : Bool), v35 = .bool x35_3 ∧ Aside0 (sphere_read.j0 kq a1 t114 t116 x35_3 0 0 0 false = some (r1, r2, r3, r4, r5)) ∧ Aside0 (kq ≤ k) ∧ Aside0 (wc.heap[gb113]? = some (.cells #[.int .i64 0, .int .i64 0, .int .i64 0, .bool false] 39 (0, 0))) ∧ Aside0 (Below w.heap.size w wc))
 case first =>
  have H := HC4.out
  clear HC4
  by_cases c6 : t115 < 1
  ·rw [if_pos c6] at H
   have c6b0 : decide (t115 < 1) = true := decide_eq_true c6
   clear c6
   (first | rw [c6b0] | (simp only [i64_w, i32_w]; rw [c6b0]) | skip)
   have H' := Aside0.mk H
   clear H
   go_wp2
   go_meet
   case rel => exact ⟨_, (true), (by first | rfl | (simp; done) | (simp [*]; done)), H', ⟨by first | omega | exact Nat.le_refl _⟩, BK113, ⟨by with_reducible repeat first | exact HB.out | apply ba | apply bn | apply bd | refine bs ?_ GE113.out⟩⟩
  ·rw [if_neg c6] at H
   have c6b0 : decide (t115 < 1) = false := decide_eq_false c6
   clear c6
   (first | rw [c6b0] | (simp only [i64_w, i32_w]; rw [c6b0]) | skip)
   by_cases c7 : t115 > 3
   ·rw [if_pos c7] at H
    have c7b0 : decide (3 < t115) = true := decide_eq_true c7
    clear c7
    have H' := Aside0.mk H
    clear H
    go_wp2
    go_meet
    case rel => exact ⟨_, (true), (by first | rfl | (simp; done) | (simp [*]; done)), H', ⟨by first | omega | exact Nat.le_refl _⟩, BK113, ⟨by with_reducible repeat first | exact HB.out | apply ba | apply bn | apply bd | refine bs ?_ GE113.out⟩⟩
   ·rw [if_neg c7] at H
    have c7b0 : decide (3 < t115) = false := decide_eq_false c7
    clear c7
    by_cases c8 : 0 < (a0.size : Int)
    ·rw [if_pos c8] at H
     have c8b0 : decide (0 < (a0.size : Int)) = true := decide_eq_true c8
     have c8b1 : decide (0 < a0.size) = true := decide_eq_true (by omega)
     clear c8
     by_cases c10 : (bt a0 0) = 48
     ·rw [if_pos c10] at H
      have c10b0 : ((bt a0 0) == 48) = true := beq_iff_eq.mpr c10
      have c10b1 : ((bt a0 0) != 48) = false := bne_eq_false_iff_eq.mpr c10
      clear c10
      by_cases c11 : t115 > 1
      ·rw [if_pos c11] at H
       have c11b0 : decide (1 < t115) = true := decide_eq_true c11
       clear c11
       have H' := Aside0.mk H
       clear H
       have p9 : 0 ≤ (0 : Int) := (by omega)
       have q9 : 0 < a0.size := (by have : (0 : Int) < (a0.size : Int) := of_decide_eq_true (by first | (with_reducible assumption) | assumption); omega)
       have hx9 : ∀ h : 0 < a0.size, ((a0[0]'h).toNat : Int) = bt a0 0 := bt_at a0 0
       clear p9
       have qi9 : (0 < (a0.size : Int)) = True := eq_true (of_decide_eq_true (by first | (with_reducible assumption) | assumption))
       replace q9 := eq_true q9
       go_wp2
       go_meet
       case rel => exact ⟨_, (true), (by first | rfl | (simp; done) | (simp [*]; done)), H', ⟨by first | omega | exact Nat.le_refl _⟩, BK113, ⟨by with_reducible repeat first | exact HB.out | apply ba | apply bn | apply bd | refine bs ?_ GE113.out⟩⟩
      ·rw [if_neg c11] at H
       have c11b0 : decide (1 < t115) = false := decide_eq_false c11
       clear c11
       replace H := Option.bind_eq_some_iff.mp H
       obtain ⟨t117, A120, H⟩ := H
       replace H : (sphere_read.j0 k a1 t114 t116 (!t117) 0 0 0 false) = some (r1, r2, r3, r4, r5) := H
       have A12 := Aside0.mk A120
       clear A120
       have H' := Aside0.mk H
       clear H
       have p9 : 0 ≤ (0 : Int) := (by omega)
       have q9 : 0 < a0.size := (by have : (0 : Int) < (a0.size : Int) := of_decide_eq_true (by first | (with_reducible assumption) | assumption); omega)
       have hx9 : ∀ h : 0 < a0.size, ((a0[0]'h).toNat : Int) = bt a0 0 := bt_at a0 0
       clear p9
       have qi9 : (0 < (a0.size : Int)) = True := eq_true (of_decide_eq_true (by first | (with_reducible assumption) | assumption))
       replace q9 := eq_true q9
       go_wp2_with (first | (go_at_call 34; (with_reducible refine (strings_HasPrefix.calls t116 (⟨#[45]⟩ : ByteArray) t117 _ A12.out).mono ?_); rintro e w' ⟨rfl, ⟨nd, rfl⟩⟩))
       go_meet
       case rel => exact ⟨_, (!t117), (by first | rfl | (simp; done) | (simp [*]; done)), H', ⟨by first | omega | exact Nat.le_refl _⟩, BK113, ⟨by with_reducible repeat first | exact HB.out | apply ba | apply bn | apply bd | refine bs ?_ GE113.out⟩⟩
     ·rw [if_neg c10] at H
      have c10b0 : ((bt a0 0) == 48) = false := beq_eq_false_iff_ne.mpr c10
      have c10b1 : ((bt a0 0) != 48) = true := bne_iff_ne.mpr c10
      replace H := Option.bind_eq_some_iff.mp H
      obtain ⟨t118, A130, H⟩ := H
      replace H : (sphere_read.j0 k a1 t114 t116 (!t118) 0 0 0 false) = some (r1, r2, r3, r4, r5) := H
      have A13 := Aside0.mk A130
      clear A130
      have H' := Aside0.mk H
      clear H
      have p9 : 0 ≤ (0 : Int) := (by omega)
      have q9 : 0 < a0.size := (by have : (0 : Int) < (a0.size : Int) := of_decide_eq_true (by first | (with_reducible assumption) | assumption); omega)
      have hx9 : ∀ h : 0 < a0.size, ((a0[0]'h).toNat : Int) = bt a0 0 := bt_at a0 0
      clear p9
      have qi9 : (0 < (a0.size : Int)) = True := eq_true (of_decide_eq_true (by first | (with_reducible assumption) | assumption))
      replace q9 := eq_true q9
      go_wp2_with (first | (go_at_call 34; (with_reducible refine (strings_HasPrefix.calls t116 (⟨#[45]⟩ : ByteArray) t118 _ A13.out).mono ?_); rintro e w' ⟨rfl, ⟨nd, rfl⟩⟩))
      go_meet
      case rel => exact ⟨_, (!t118), (by first | rfl | (simp; done) | (simp [*]; done)), H', ⟨by first | omega | exact Nat.le_refl _⟩, BK113, ⟨by with_reducible repeat first | exact HB.out | apply ba | apply bn | apply bd | refine bs ?_ GE113.out⟩⟩
    ·rw [if_neg c8] at H
     exact absurd H (by simp)
 case rest =>
  clear HC4
  try clear c1
  try clear c2
  try clear p2
  try clear c3
  try clear c6
  try clear c6b0
  try clear c7
  try clear c7b0
  try clear c8
  try clear c8b0
  try clear c8b1
  try clear p9
  try clear q9
  try clear hx9
  try clear qi9
  try clear c10
  try clear c10b0
  try clear c10b1
  try clear c11
  try clear c11b0
  try clear p9
  try clear q9
  obtain ⟨kq, x35_3, rfl, HA, HJ3, BK113, HB⟩ := hcut
  cases kq with
  | zero => exact absurd HA.out (by simp [sphere_read.j0])
  | succ kj3 =>
   have H := HA.out
   clear HA
   simp only [sphere_read.j0] at H
   by_cases c14 : x35_3 = true
   ·subst c14
    have H1 : (some (0, 0, 0, false, false)) = some (r1, r2, r3, r4, r5) := by rw [if_pos rfl] at H; exact H
    clear H
    have H := H1
    clear H1
    simp only [Option.some.injEq, Prod.mk.injEq] at H
    obtain ⟨rfl, rfl, rfl, rfl, rfl⟩ := H
    have hcz15_0 : wc.cell? ⟨gb113, 0, none⟩ = some (.int .i64 0) := (blk_cell BK113.out 0).trans rfl
    have hcz15_1 : wc.cell? ⟨gb113, 1, none⟩ = some (.int .i64 0) := (blk_cell BK113.out 1).trans rfl
    have hcz15_2 : wc.cell? ⟨gb113, 2, none⟩ = some (.int .i64 0) := (blk_cell BK113.out 2).trans rfl
    have hcz15_3 : wc.cell? ⟨gb113, 3, none⟩ = some (.bool false) := (blk_cell BK113.out 3).trans rfl
    have hfz15_0 := blk_frozen BK113.out 0
    have hfz15_1 := blk_frozen BK113.out 1
    have hfz15_2 := blk_frozen BK113.out 2
    have hfz15_3 := blk_frozen BK113.out 3
    go_wp2
    refine bodyPost_ret (results_ct rfl _ _ gb113 39 #[.int .i64 0, .int .i64 0, .int .i64 0, .bool false] (0, 0) _ rfl (by (with_reducible repeat first | refine n_ ?_ _ | refine d_ ?_ | refine a_ ?_ _); refine blk_put (cs := #[.int .i64 0, .int .i64 0, .int .i64 0, .bool false]) ?_ 3 _ rfl; (with_reducible repeat first | refine n_ ?_ _ | refine d_ ?_ | refine a_ ?_ _); refine blk_put (cs := #[.int .i64 0, .int .i64 0, .int .i64 0, .bool false]) ?_ 2 _ rfl; (with_reducible repeat first | refine n_ ?_ _ | refine d_ ?_ | refine a_ ?_ _); refine blk_put (cs := #[.int .i64 0, .int .i64 0, .int .i64 0, .bool false]) ?_ 1 _ rfl; (with_reducible repeat first | refine n_ ?_ _ | refine d_ ?_ | refine a_ ?_ _); refine blk_put (cs := #[.int .i64 0, .int .i64 0, .int .i64 0, .bool false]) ?_ 0 _ rfl; (with_reducible repeat first | refine n_ ?_ _ | refine d_ ?_ | refine a_ ?_ _); exact BK113.out) Try.underlying39 rfl (by kernel_rfl)) rfl ?_
    exact ⟨by first | rfl | (simp [errW_none, errW_some] <;> rfl) | (simp [*, errW_none, errW_some] <;> rfl), by with_reducible repeat first | exact HB.out | apply ba | apply bn | apply bd | refine bs ?_ GE113.out⟩
   ·replace c14 := Bool.eq_false_iff.mpr c14
    subst c14
    have H1 : (if 1 ≤ (t116.size : Int) then ((sphere_number.f (t116.extract 1 t116.size)).bind fun bt119 => (if bt119.2.1 = 2 then ((strings_HasPrefix.f bt119.2.2 (⟨#[45]⟩ : ByteArray)).bind fun t122 => (sphere_read.j1 kj3 a1 bt119.2.2 (!t122) t114 bt119.1 0 false)) else (sphere_read.j1 kj3 a1 bt119.2.2 true t114 bt119.1 0 false))) else (none)) = some (r1, r2, r3, r4, r5) := by rw [if_neg (show ¬ (false = true) by decide)] at H; exact H
    clear H
    have H := H1
    clear H1
    by_cases c16 : 1 ≤ (t116.size : Int)
    ·rw [if_pos c16] at H
     have c16b0 := eq_true c16
     have c16b1 : decide (1 ≤ (t116.size : Int)) = true := decide_eq_true c16
     clear c16
     replace H := Option.bind_eq_some_iff.mp H
     obtain ⟨⟨t119, t120, t121⟩, A170, H⟩ := H
     replace H : (if t120 = 2 then ((strings_HasPrefix.f t121 (⟨#[45]⟩ : ByteArray)).bind fun t122 => (sphere_read.j1 kj3 a1 t121 (!t122) t114 t119 0 false)) else (sphere_read.j1 kj3 a1 t121 true t114 t119 0 false)) = some (r1, r2, r3, r4, r5) := H
     have A17 := Aside0.mk A170
     clear A170
     have HC18 := Aside0.mk H
     clear H
     have hcz19_0 : wc.cell? ⟨gb113, 0, none⟩ = some (.int .i64 0) := (blk_cell BK113.out 0).trans rfl
     have hcz19_1 : wc.cell? ⟨gb113, 1, none⟩ = some (.int .i64 0) := (blk_cell BK113.out 1).trans rfl
     have hcz19_2 : wc.cell? ⟨gb113, 2, none⟩ = some (.int .i64 0) := (blk_cell BK113.out 2).trans rfl
     have hcz19_3 : wc.cell? ⟨gb113, 3, none⟩ = some (.bool false) := (blk_cell BK113.out 3).trans rfl
     have hfz19_0 := blk_frozen BK113.out 0
     have hfz19_1 := blk_frozen BK113.out 1
     have hfz19_2 := blk_frozen BK113.out 2
     have hfz19_3 := blk_frozen BK113.out 3
     go_upto_region 6 with (first | ((with_reducible refine gate_callee (f := 33) rfl ?_); refine goesL_ (some 42) rfl rfl Try.func33 (by kernel_rfl) rfl #[.string (t116.extract 1 t116.size)] rfl (by (try simp only [List.map_toArray, List.map_cons, List.map_nil]); first | done | rfl | (simp only [List.length_drop, List.length_take]; rfl)) ?_; (with_reducible refine (sphere_number.calls (t116.extract 1 t116.size) t119 t120 t121 _ A17.out).mono ?_); rintro e w' ⟨rfl, ⟨nd, rfl⟩⟩; refine ⟨_, rfl, ?_⟩))
     (try simp only [Act.put, s1, s2, s3])
     go_cut [53] (fun v53 wc => ∃ (kq : Nat) (x53_17 : Bool), v53 = .bool x53_17 ∧ Aside0 (sphere_read.j1 kq a1 t121 x53_17 t114 t119 0 false = some (r1, r2, r3, r4, r5)) ∧ Aside0 (kq ≤ kj3) ∧ Aside0 (wc.heap[gb113]? = some (.cells #[.int .i64 t114, .int .i64 t119, .int .i64 0, .bool false] 39 (0, 0))) ∧ Aside0 (Below w.heap.size w wc))
     case first =>
      have H := HC18.out
      clear HC18
      by_cases c20 : t120 = 2
      ·rw [if_pos c20] at H
       try rw [show (t120 == 2) = true from beq_iff_eq.mpr c20] at H
       have c20b0 : (t120 == 2) = true := beq_iff_eq.mpr c20
       have c20b1 : (t120 != 2) = false := bne_eq_false_iff_eq.mpr c20
       clear c20
       (first | rw [c20b0] | (simp only [i64_w, i32_w]; rw [c20b0]) | skip)
       replace H := Option.bind_eq_some_iff.mp H
       obtain ⟨t122, A210, H⟩ := H
       replace H : (sphere_read.j1 kj3 a1 t121 (!t122) t114 t119 0 false) = some (r1, r2, r3, r4, r5) := H
       have A21 := Aside0.mk A210
       clear A210
       have H' := Aside0.mk H
       clear H
       go_wp2_with (first | (go_at_call 34; (with_reducible refine (strings_HasPrefix.calls t121 (⟨#[45]⟩ : ByteArray) t122 _ A21.out).mono ?_); rintro e w' ⟨rfl, ⟨nd, rfl⟩⟩))
       go_meet
       case rel => exact ⟨_, (!t122), (by first | rfl | (simp; done) | (simp [*]; done)), H', ⟨by have := HJ3.out; first | omega | exact Nat.le_refl _⟩, ⟨by (with_reducible repeat first | refine n_ ?_ _ | refine d_ ?_ | refine a_ ?_ _); refine blk_put (cs := #[.int .i64 t114, .int .i64 0, .int .i64 0, .bool false]) ?_ 1 _ rfl; (with_reducible repeat first | refine n_ ?_ _ | refine d_ ?_ | refine a_ ?_ _); refine blk_put (cs := #[.int .i64 0, .int .i64 0, .int .i64 0, .bool false]) ?_ 0 _ rfl; (with_reducible repeat first | refine n_ ?_ _ | refine d_ ?_ | refine a_ ?_ _); exact BK113.out⟩, ⟨by with_reducible repeat first | exact HB.out | apply ba | apply bn | apply bd | refine bs ?_ GE113.out⟩⟩
      ·rw [if_neg c20] at H
       try rw [show (t120 == 2) = false from beq_eq_false_iff_ne.mpr c20] at H
       have c20b0 : (t120 == 2) = false := beq_eq_false_iff_ne.mpr c20
       have c20b1 : (t120 != 2) = true := bne_iff_ne.mpr c20
       (first | rw [c20b0] | (simp only [i64_w, i32_w]; rw [c20b0]) | skip)
       have H' := Aside0.mk H
       clear H
       go_wp2
       go_meet
       case rel => exact ⟨_, (true), (by first | rfl | (simp; done) | (simp [*]; done)), H', ⟨by have := HJ3.out; first | omega | exact Nat.le_refl _⟩, ⟨by (with_reducible repeat first | refine n_ ?_ _ | refine d_ ?_ | refine a_ ?_ _); refine blk_put (cs := #[.int .i64 t114, .int .i64 0, .int .i64 0, .bool false]) ?_ 1 _ rfl; (with_reducible repeat first | refine n_ ?_ _ | refine d_ ?_ | refine a_ ?_ _); refine blk_put (cs := #[.int .i64 0, .int .i64 0, .int .i64 0, .bool false]) ?_ 0 _ rfl; (with_reducible repeat first | refine n_ ?_ _ | refine d_ ?_ | refine a_ ?_ _); exact BK113.out⟩, ⟨by with_reducible repeat first | exact HB.out | apply ba | apply bn | apply bd | refine bs ?_ GE113.out⟩⟩
     case rest =>
      clear HC18
      try clear c1
      try clear c2
      try clear p2
      try clear c3
      try clear c6
      try clear c6b0
      try clear c7
      try clear c7b0
      try clear c8
      try clear c8b0
      try clear c8b1
      try clear p9
      try clear q9
      try clear hx9
      try clear qi9
      try clear c10
      try clear c10b0
      try clear c10b1
      try clear c11
      try clear c11b0
      try clear c14
      try clear c16
      try clear c16b0
      try clear c16b1
      try clear c20
      try clear c20b0
      try clear c20b1
      try clear hcz15_0
      try clear hcz15_1
      try clear hcz15_2
      try clear hcz15_3
      try clear hcz19_0
      try clear hcz19_1
      try clear hcz19_2
      try clear hcz19_3
      try clear hfz15_0
      try clear hfz15_1
      try clear hfz15_2
      try clear hfz15_3
      try clear hfz19_0
      try clear hfz19_1
      try clear hfz19_2
      try clear hfz19_3
      try clear p2
      try clear p9
      try clear q9
      obtain ⟨kq, x53_17, rfl, HA, HJ17, BK113, HB⟩ := hcut
      cases kq with
      | zero => exact absurd HA.out (by simp [sphere_read.j1])
      | succ kj17 =>
       have H := HA.out
       clear HA
       simp only [sphere_read.j1] at H
       by_cases c22 : x53_17 = true
       ·subst c22
        have H1 : (some (t114, t119, 0, false, false)) = some (r1, r2, r3, r4, r5) := by rw [if_pos rfl] at H; exact H
        clear H
        have H := H1
        clear H1
        simp only [Option.some.injEq, Prod.mk.injEq] at H
        obtain ⟨rfl, rfl, rfl, rfl, rfl⟩ := H
        have hcz23_0 : wc.cell? ⟨gb113, 0, none⟩ = some (.int .i64 t114) := (blk_cell BK113.out 0).trans rfl
        have hcz23_1 : wc.cell? ⟨gb113, 1, none⟩ = some (.int .i64 t119) := (blk_cell BK113.out 1).trans rfl
        have hcz23_2 : wc.cell? ⟨gb113, 2, none⟩ = some (.int .i64 0) := (blk_cell BK113.out 2).trans rfl
        have hcz23_3 : wc.cell? ⟨gb113, 3, none⟩ = some (.bool false) := (blk_cell BK113.out 3).trans rfl
        have hfz23_0 := blk_frozen BK113.out 0
        have hfz23_1 := blk_frozen BK113.out 1
        have hfz23_2 := blk_frozen BK113.out 2
        have hfz23_3 := blk_frozen BK113.out 3
        go_wp2
        refine bodyPost_ret (results_ct rfl _ _ gb113 39 #[.int .i64 t114, .int .i64 t119, .int .i64 0, .bool false] (0, 0) _ rfl (by (with_reducible repeat first | refine n_ ?_ _ | refine d_ ?_ | refine a_ ?_ _); refine blk_put (cs := #[.int .i64 t114, .int .i64 t119, .int .i64 0, .bool false]) ?_ 3 _ rfl; (with_reducible repeat first | refine n_ ?_ _ | refine d_ ?_ | refine a_ ?_ _); refine blk_put (cs := #[.int .i64 t114, .int .i64 t119, .int .i64 0, .bool false]) ?_ 2 _ rfl; (with_reducible repeat first | refine n_ ?_ _ | refine d_ ?_ | refine a_ ?_ _); refine blk_put (cs := #[.int .i64 t114, .int .i64 t119, .int .i64 0, .bool false]) ?_ 1 _ rfl; (with_reducible repeat first | refine n_ ?_ _ | refine d_ ?_ | refine a_ ?_ _); refine blk_put (cs := #[.int .i64 t114, .int .i64 t119, .int .i64 0, .bool false]) ?_ 0 _ rfl; (with_reducible repeat first | refine n_ ?_ _ | refine d_ ?_ | refine a_ ?_ _); exact BK113.out) Try.underlying39 rfl (by kernel_rfl)) rfl ?_
        exact ⟨by first | rfl | (simp [errW_none, errW_some] <;> rfl) | (simp [*, errW_none, errW_some] <;> rfl), by with_reducible repeat first | exact HB.out | apply ba | apply bn | apply bd | refine bs ?_ GE113.out⟩
       ·replace c22 := Bool.eq_false_iff.mpr c22
        subst c22
        have H1 : (if 1 ≤ (t121.size : Int) then ((sphere_number.f (t121.extract 1 t121.size)).bind fun bt123 => (if bt123.2.1 = 2 then (sphere_read.j2 kj17 a1 bt123.2.2 ((bt123.2.2.size : Int) != 1) t114 t119 bt123.1 false) else (sphere_read.j2 kj17 a1 bt123.2.2 true t114 t119 bt123.1 false))) else (none)) = some (r1, r2, r3, r4, r5) := by rw [if_neg (show ¬ (false = true) by decide)] at H; exact H
        clear H
        have H := H1
        clear H1
        by_cases c24 : 1 ≤ (t121.size : Int)
        ·rw [if_pos c24] at H
         have c24b0 := eq_true c24
         have c24b1 : decide (1 ≤ (t121.size : Int)) = true := decide_eq_true c24
         clear c24
         replace H := Option.bind_eq_some_iff.mp H
         obtain ⟨⟨t123, t124, t125⟩, A250, H⟩ := H
         replace H : (if t124 = 2 then (sphere_read.j2 kj17 a1 t125 ((t125.size : Int) != 1) t114 t119 t123 false) else (sphere_read.j2 kj17 a1 t125 true t114 t119 t123 false)) = some (r1, r2, r3, r4, r5) := H
         have A25 := Aside0.mk A250
         clear A250
         have HC26 := Aside0.mk H
         clear H
         go_upto_region 9 with (first | ((with_reducible refine gate_callee (f := 33) rfl ?_); refine goesL_ (some 58) rfl rfl Try.func33 (by kernel_rfl) rfl #[.string (t121.extract 1 t121.size)] rfl (by (try simp only [List.map_toArray, List.map_cons, List.map_nil]); first | done | rfl | (simp only [List.length_drop, List.length_take]; rfl)) ?_; (with_reducible refine (sphere_number.calls (t121.extract 1 t121.size) t123 t124 t125 _ A25.out).mono ?_); rintro e w' ⟨rfl, ⟨nd, rfl⟩⟩; refine ⟨_, rfl, ?_⟩; (try (rw [drewN_self wc]; generalize hq_ : World.drewN wc _ = wc; have n0_ : Aside0 (wc.heap[gb113]? = some (.cells #[.int .i64 t114, .int .i64 t119, .int .i64 0, .bool false] 39 (0, 0))) := ⟨by rw [← hq_]; exact BK113.out⟩; have n1_ : Aside0 (Below w.heap.size w wc) := ⟨by rw [← hq_]; exact (by with_reducible repeat first | exact HB.out | apply ba | apply bn | apply bd | refine bs ?_ GE113.out)⟩; clear BK113 HB hq_; have BK113 := n0_; have HB := n1_; clear n0_ n1_)); have hcz27_0 : wc.cell? ⟨gb113, 0, none⟩ = some (.int .i64 t114) := (blk_cell BK113.out 0).trans rfl; have hcz27_1 : wc.cell? ⟨gb113, 1, none⟩ = some (.int .i64 t119) := (blk_cell BK113.out 1).trans rfl; have hcz27_2 : wc.cell? ⟨gb113, 2, none⟩ = some (.int .i64 0) := (blk_cell BK113.out 2).trans rfl; have hcz27_3 : wc.cell? ⟨gb113, 3, none⟩ = some (.bool false) := (blk_cell BK113.out 3).trans rfl; have hfz27_0 := blk_frozen BK113.out 0; have hfz27_1 := blk_frozen BK113.out 1; have hfz27_2 := blk_frozen BK113.out 2; have hfz27_3 := blk_frozen BK113.out 3))
         (try simp only [Act.put, s1, s2, s3])
         go_cut [69] (fun v69 wc => ∃ (kq : Nat) (x69_25 : Bool), v69 = .bool x69_25 ∧ Aside0 (sphere_read.j2 kq a1 t125 x69_25 t114 t119 t123 false = some (r1, r2, r3, r4, r5)) ∧ Aside0 (kq ≤ kj17) ∧ Aside0 (wc.heap[gb113]? = some (.cells #[.int .i64 t114, .int .i64 t119, .int .i64 t123, .bool false] 39 (0, 0))) ∧ Aside0 (Below w.heap.size w wc))
         case first =>
          have H := HC26.out
          clear HC26
          by_cases c28 : t124 = 2
          ·rw [if_pos c28] at H
           try rw [show (t124 == 2) = true from beq_iff_eq.mpr c28] at H
           have c28b0 : (t124 == 2) = true := beq_iff_eq.mpr c28
           have c28b1 : (t124 != 2) = false := bne_eq_false_iff_eq.mpr c28
           clear c28
           (first | rw [c28b0] | (simp only [i64_w, i32_w]; rw [c28b0]) | skip)
           have H' := Aside0.mk H
           clear H
           go_wp2
           go_meet
           case rel => exact ⟨_, (((t125.size : Int) != 1)), (by first | rfl | (simp; done) | (simp [*]; done)), H', ⟨by have := HJ3.out; have := HJ17.out; first | omega | exact Nat.le_refl _⟩, ⟨by (with_reducible repeat first | refine n_ ?_ _ | refine d_ ?_ | refine a_ ?_ _); refine blk_put (cs := #[.int .i64 t114, .int .i64 t119, .int .i64 0, .bool false]) ?_ 2 _ rfl; (with_reducible repeat first | refine n_ ?_ _ | refine d_ ?_ | refine a_ ?_ _); exact BK113.out⟩, ⟨by with_reducible repeat first | exact HB.out | apply ba | apply bn | apply bd | refine bs ?_ GE113.out⟩⟩
          ·rw [if_neg c28] at H
           try rw [show (t124 == 2) = false from beq_eq_false_iff_ne.mpr c28] at H
           have c28b0 : (t124 == 2) = false := beq_eq_false_iff_ne.mpr c28
           have c28b1 : (t124 != 2) = true := bne_iff_ne.mpr c28
           (first | rw [c28b0] | (simp only [i64_w, i32_w]; rw [c28b0]) | skip)
           have H' := Aside0.mk H
           clear H
           go_wp2
           go_meet
           case rel => exact ⟨_, (true), (by first | rfl | (simp; done) | (simp [*]; done)), H', ⟨by have := HJ3.out; have := HJ17.out; first | omega | exact Nat.le_refl _⟩, ⟨by (with_reducible repeat first | refine n_ ?_ _ | refine d_ ?_ | refine a_ ?_ _); refine blk_put (cs := #[.int .i64 t114, .int .i64 t119, .int .i64 0, .bool false]) ?_ 2 _ rfl; (with_reducible repeat first | refine n_ ?_ _ | refine d_ ?_ | refine a_ ?_ _); exact BK113.out⟩, ⟨by with_reducible repeat first | exact HB.out | apply ba | apply bn | apply bd | refine bs ?_ GE113.out⟩⟩
         case rest =>
          clear HC26
          try clear c1
          try clear c2
          try clear p2
          try clear c3
          try clear c6
          try clear c6b0
          try clear c7
          try clear c7b0
          try clear c8
          try clear c8b0
          try clear c8b1
          try clear p9
          try clear q9
          try clear hx9
          try clear qi9
          try clear c10
          try clear c10b0
          try clear c10b1
          try clear c11
          try clear c11b0
          try clear c14
          try clear c16
          try clear c16b0
          try clear c16b1
          try clear c20
          try clear c20b0
          try clear c20b1
          try clear c22
          try clear c24
          try clear c24b0
          try clear c24b1
          try clear c28
          try clear c28b0
          try clear c28b1
          try clear hcz15_0
          try clear hcz15_1
          try clear hcz15_2
          try clear hcz15_3
          try clear hcz19_0
          try clear hcz19_1
          try clear hcz19_2
          try clear hcz19_3
          try clear hcz23_0
          try clear hcz23_1
          try clear hcz23_2
          try clear hcz23_3
          try clear hcz27_0
          try clear hcz27_1
          try clear hcz27_2
          try clear hcz27_3
          try clear hfz15_0
          try clear hfz15_1
          try clear hfz15_2
          try clear hfz15_3
          try clear hfz19_0
          try clear hfz19_1
          try clear hfz19_2
          try clear hfz19_3
          try clear hfz23_0
          try clear hfz23_1
          try clear hfz23_2
          try clear hfz23_3
          try clear hfz27_0
          try clear hfz27_1
          try clear hfz27_2
          try clear hfz27_3
          try clear p2
          try clear p9
          try clear q9
          obtain ⟨kq, x69_25, rfl, HA, HJ25, BK113, HB⟩ := hcut
          cases kq with
          | zero => exact absurd HA.out (by simp [sphere_read.j2])
          | succ kj25 =>
           have H := HA.out
           clear HA
           simp only [sphere_read.j2] at H
           by_cases c29 : x69_25 = true
           ·subst c29
            have H1 : (some (t114, t119, t123, false, false)) = some (r1, r2, r3, r4, r5) := by rw [if_pos rfl] at H; exact H
            clear H
            have H := H1
            clear H1
            simp only [Option.some.injEq, Prod.mk.injEq] at H
            obtain ⟨rfl, rfl, rfl, rfl, rfl⟩ := H
            have hcz30_0 : wc.cell? ⟨gb113, 0, none⟩ = some (.int .i64 t114) := (blk_cell BK113.out 0).trans rfl
            have hcz30_1 : wc.cell? ⟨gb113, 1, none⟩ = some (.int .i64 t119) := (blk_cell BK113.out 1).trans rfl
            have hcz30_2 : wc.cell? ⟨gb113, 2, none⟩ = some (.int .i64 t123) := (blk_cell BK113.out 2).trans rfl
            have hcz30_3 : wc.cell? ⟨gb113, 3, none⟩ = some (.bool false) := (blk_cell BK113.out 3).trans rfl
            have hfz30_0 := blk_frozen BK113.out 0
            have hfz30_1 := blk_frozen BK113.out 1
            have hfz30_2 := blk_frozen BK113.out 2
            have hfz30_3 := blk_frozen BK113.out 3
            go_wp2
            refine bodyPost_ret (results_ct rfl _ _ gb113 39 #[.int .i64 t114, .int .i64 t119, .int .i64 t123, .bool false] (0, 0) _ rfl (by (with_reducible repeat first | refine n_ ?_ _ | refine d_ ?_ | refine a_ ?_ _); refine blk_put (cs := #[.int .i64 t114, .int .i64 t119, .int .i64 t123, .bool false]) ?_ 3 _ rfl; (with_reducible repeat first | refine n_ ?_ _ | refine d_ ?_ | refine a_ ?_ _); refine blk_put (cs := #[.int .i64 t114, .int .i64 t119, .int .i64 t123, .bool false]) ?_ 2 _ rfl; (with_reducible repeat first | refine n_ ?_ _ | refine d_ ?_ | refine a_ ?_ _); refine blk_put (cs := #[.int .i64 t114, .int .i64 t119, .int .i64 t123, .bool false]) ?_ 1 _ rfl; (with_reducible repeat first | refine n_ ?_ _ | refine d_ ?_ | refine a_ ?_ _); refine blk_put (cs := #[.int .i64 t114, .int .i64 t119, .int .i64 t123, .bool false]) ?_ 0 _ rfl; (with_reducible repeat first | refine n_ ?_ _ | refine d_ ?_ | refine a_ ?_ _); exact BK113.out) Try.underlying39 rfl (by kernel_rfl)) rfl ?_
            exact ⟨by first | rfl | (simp [errW_none, errW_some] <;> rfl) | (simp [*, errW_none, errW_some] <;> rfl), by with_reducible repeat first | exact HB.out | apply ba | apply bn | apply bd | refine bs ?_ GE113.out⟩
           ·replace c29 := Bool.eq_false_iff.mpr c29
            subst c29
            have H1 : (if 0 < (t125.size : Int) then ((strings_IndexByte.f a1 (bt t125 0)).bind fun t126 => (if t126 ≥ 0 then (if t126 = 1 then ((sphere_angle_value.f t114 t119 t123 (t126 == 1)).bind fun t127 => (some (t114, t119, t123, (t126 == 1), !(t127 == 0)))) else (some (t114, t119, t123, (t126 == 1), !false))) else (some (t114, t119, t123, (t126 == 1), false)))) else (none)) = some (r1, r2, r3, r4, r5) := by rw [if_neg (show ¬ (false = true) by decide)] at H; exact H
            clear H
            have H := H1
            clear H1
            by_cases c31 : 0 < (t125.size : Int)
            ·rw [if_pos c31] at H
             have c31b0 : decide (0 < (t125.size : Int)) = true := decide_eq_true c31
             have c31b1 : decide (0 < t125.size) = true := decide_eq_true (by omega)
             clear c31
             replace H := Option.bind_eq_some_iff.mp H
             obtain ⟨t126, A330, H⟩ := H
             replace H : (if t126 ≥ 0 then (if t126 = 1 then ((sphere_angle_value.f t114 t119 t123 (t126 == 1)).bind fun t127 => (some (t114, t119, t123, (t126 == 1), !(t127 == 0)))) else (some (t114, t119, t123, (t126 == 1), !false))) else (some (t114, t119, t123, (t126 == 1), false))) = some (r1, r2, r3, r4, r5) := H
             have A33 := Aside0.mk A330
             clear A330
             by_cases c34 : t126 ≥ 0
             ·rw [if_pos c34] at H
              have c34b0 : decide (0 ≤ t126) = true := decide_eq_true c34
              clear c34
              by_cases c35 : t126 = 1
              ·rw [if_pos c35] at H
               try rw [show (t126 == 1) = true from beq_iff_eq.mpr c35] at H
               have c35b0 : (t126 == 1) = true := beq_iff_eq.mpr c35
               have c35b1 : (t126 != 1) = false := bne_eq_false_iff_eq.mpr c35
               clear c35
               replace H := Option.bind_eq_some_iff.mp H
               obtain ⟨t127, A360, H⟩ := H
               replace H : (some (t114, t119, t123, true, !(t127 == 0))) = some (r1, r2, r3, r4, r5) := H
               have A36 := Aside0.mk A360
               clear A360
               simp only [Option.some.injEq, Prod.mk.injEq] at H
               obtain ⟨rfl, rfl, rfl, rfl, rfl⟩ := H
               have p32 : 0 ≤ (0 : Int) := (by omega)
               have q32 : 0 < t125.size := (by have : (0 : Int) < (t125.size : Int) := of_decide_eq_true (by first | (with_reducible assumption) | assumption); omega)
               have hx32 : ∀ h : 0 < t125.size, ((t125[0]'h).toNat : Int) = bt t125 0 := bt_at t125 0
               clear p32
               have qi32 : (0 < (t125.size : Int)) = True := eq_true (of_decide_eq_true (by first | (with_reducible assumption) | assumption))
               replace q32 := eq_true q32
               try go_wp2_with (first | ((with_reducible refine gate_callee (f := 35) rfl ?_); refine goesL_ (some 74) rfl rfl Try.func35 (by kernel_rfl) rfl #[.string a1, .int .u8 (bt t125 0)] rfl (by (try simp only [List.map_toArray, List.map_cons, List.map_nil]); first | done | rfl | (simp only [List.length_drop, List.length_take]; rfl)) ?_; (with_reducible refine (strings_IndexByte.calls a1 (bt t125 0) t126 _ A33.out).mono ?_); rintro e w' ⟨rfl, ⟨nd, rfl⟩⟩; refine ⟨_, rfl, ?_⟩; (try (rw [drewN_self wc]; generalize hq_ : World.drewN wc _ = wc; have n0_ : Aside0 (wc.heap[gb113]? = some (.cells #[.int .i64 t114, .int .i64 t119, .int .i64 t123, .bool false] 39 (0, 0))) := ⟨by rw [← hq_]; exact BK113.out⟩; have n1_ : Aside0 (Below w.heap.size w wc) := ⟨by rw [← hq_]; exact (by with_reducible repeat first | exact HB.out | apply ba | apply bn | apply bd | refine bs ?_ GE113.out)⟩; clear BK113 HB hq_; have BK113 := n0_; have HB := n1_; clear n0_ n1_)); have hcz37_0 : wc.cell? ⟨gb113, 0, none⟩ = some (.int .i64 t114) := (blk_cell BK113.out 0).trans rfl; have hcz37_1 : wc.cell? ⟨gb113, 1, none⟩ = some (.int .i64 t119) := (blk_cell BK113.out 1).trans rfl; have hcz37_2 : wc.cell? ⟨gb113, 2, none⟩ = some (.int .i64 t123) := (blk_cell BK113.out 2).trans rfl; have hcz37_3 : wc.cell? ⟨gb113, 3, none⟩ = some (.bool false) := (blk_cell BK113.out 3).trans rfl; have hfz37_0 := blk_frozen BK113.out 0; have hfz37_1 := blk_frozen BK113.out 1; have hfz37_2 := blk_frozen BK113.out 2; have hfz37_3 := blk_frozen BK113.out 3))
               have n0_ : Aside0 ((wc.setCell ⟨gb113, 3, none⟩ (.bool true)).heap[gb113]? = some (.cells #[.int .i64 t114, .int .i64 t119, .int .i64 t123, .bool true] 39 (0, 0))) := ⟨by (with_reducible repeat first | refine n_ ?_ _ | refine d_ ?_ | refine a_ ?_ _); refine blk_put (cs := #[.int .i64 t114, .int .i64 t119, .int .i64 t123, .bool false]) ?_ 3 _ rfl; (with_reducible repeat first | refine n_ ?_ _ | refine d_ ?_ | refine a_ ?_ _); exact BK113.out⟩
               have n1_ : Aside0 (Below w.heap.size w (wc.setCell ⟨gb113, 3, none⟩ (.bool true))) := ⟨by with_reducible repeat first | exact HB.out | apply ba | apply bn | apply bd | refine bs ?_ GE113.out⟩
               (try clear BK113)
               (try clear HB)
               generalize (wc.setCell ⟨gb113, 3, none⟩ (.bool true)) = w38 at n0_ n1_ ⊢
               have BK113 := n0_
               have HB := n1_
               clear n0_ n1_
               have n0_ := Aside0.mk (blk_drew BK113.out)
               have n1_ := Aside0.mk (below_drew1 HB.out)
               clear BK113
               clear HB
               have BK113 := n0_
               have HB := n1_
               clear n0_ n1_
               refine start_ (n := 15) (S := fun w' => w'.cell? ⟨gb113, 0, none⟩ = some (.int .i64 t114) ∧ w'.cell? ⟨gb113, 1, none⟩ = some (.int .i64 t119) ∧ w'.cell? ⟨gb113, 2, none⟩ = some (.int .i64 t123) ∧ w'.cell? ⟨gb113, 3, none⟩ = some (.bool true)) (ds := [13]) #[false, false, false, false, false, false, false, false, false, false, false, false, false, false, false] (by kernel_rfl) rfl rfl ⟨(blk_cell BK113.out 0).trans rfl, (blk_cell BK113.out 1).trans rfl, (blk_cell BK113.out 2).trans rfl, (blk_cell BK113.out 3).trans rfl⟩ (fun hHeld => ?_); refine with_tabW sphere_read.tab13 sphere_read.bits13 (fun HT_ HW_ => ?_)
               generalize w38.drew = w39 at BK113 HB hHeld ⊢
               refine pure_ (i := 1) (N := some 79) (v := ?_) (a' := ?_) #[false, true, false, false, false, false, false, false, false, false, false, false, false, false, false] rfl rfl (any_of HT_.out (by kernel_rfl)) (fun _ _ _ h => h) (Or.inl ⟨by rfl, ?_⟩) ?_ ?_
               rotate_left
               ·intro w'
                go_simp
                with_reducible rfl
               rotate_left
               ·simp only [Act.put, s1, s2, s3, i64_w, i32_w]
                rfl
               refine pure_ (i := 2) (N := some 80) (v := ?_) (a' := ?_) #[false, true, true, false, false, false, false, false, false, false, false, false, false, false, false] rfl rfl (any_of HT_.out (by kernel_rfl)) (fun _ _ _ h => h) (Or.inl ⟨by rfl, ?_⟩) ?_ ?_
               rotate_left
               ·intro w'
                go_simp
                with_reducible rfl
               rotate_left
               ·simp only [Act.put, s1, s2, s3, i64_w, i32_w]
                rfl
               refine pure_ (i := 3) (N := some 81) (v := ?_) (a' := ?_) #[false, true, true, true, false, false, false, false, false, false, false, false, false, false, false] rfl rfl (any_of HT_.out (by kernel_rfl)) (fun _ _ _ h => h) (Or.inl ⟨by rfl, ?_⟩) ?_ ?_
               rotate_left
               ·intro w'
                go_simp
                with_reducible rfl
               rotate_left
               ·simp only [Act.put, s1, s2, s3, i64_w, i32_w]
                rfl
               refine pure_ (i := 4) (N := some 82) (v := ?_) (a' := ?_) #[false, true, true, true, true, false, false, false, false, false, false, false, false, false, false] rfl rfl (any_of HT_.out (by kernel_rfl)) (fun _ _ _ h => h) (Or.inl ⟨by rfl, ?_⟩) ?_ ?_
               rotate_left
               ·intro w'
                go_simp
                with_reducible rfl
               rotate_left
               ·simp only [Act.put, s1, s2, s3, i64_w, i32_w]
                rfl
               refine take_ (i := 0) (N := some 78) (v := ?_) (a' := ?_) #[true, true, true, true, true, false, false, false, false, false, false, false, false, false, false] rfl rfl (take_ofW HT_.out HW_.out (by kernel_rfl)) (fun _ _ _ h => h) (Or.inl ⟨by rfl, ?_⟩) hHeld ?_ ?_
               rotate_left
               ·rintro w' ⟨s0, s1, s2, s3⟩
                go_simp
                with_reducible rfl
               rotate_left
               ·simp only [Act.put, s1, s2, s3, i64_w, i32_w]
                rfl
               refine take_ (i := 5) (N := some 83) (v := ?_) (a' := ?_) #[true, true, true, true, true, true, false, false, false, false, false, false, false, false, false] rfl rfl (take_ofW HT_.out HW_.out (by kernel_rfl)) (fun _ _ _ h => h) (Or.inl ⟨by rfl, ?_⟩) hHeld ?_ ?_
               rotate_left
               ·rintro w' ⟨s0, s1, s2, s3⟩
                go_simp
                with_reducible rfl
               rotate_left
               ·simp only [Act.put, s1, s2, s3, i64_w, i32_w]
                rfl
               refine pure_ (i := 6) (N := some 84) (v := ?_) (a' := ?_) #[true, true, true, true, true, true, true, false, false, false, false, false, false, false, false] rfl rfl (any_of HT_.out (by kernel_rfl)) (fun _ _ _ h => h) (Or.inl ⟨by rfl, ?_⟩) ?_ ?_
               rotate_left
               ·intro w'
                go_simp
                with_reducible rfl
               rotate_left
               ·simp only [Act.put, s1, s2, s3, i64_w, i32_w]
                rfl
               refine take_ (i := 7) (N := some 85) (v := ?_) (a' := ?_) #[true, true, true, true, true, true, true, true, false, false, false, false, false, false, false] rfl rfl (take_ofW HT_.out HW_.out (by kernel_rfl)) (fun _ _ _ h => h) (Or.inl ⟨by rfl, ?_⟩) hHeld ?_ ?_
               rotate_left
               ·rintro w' ⟨s0, s1, s2, s3⟩
                go_simp
                with_reducible rfl
               rotate_left
               ·simp only [Act.put, s1, s2, s3, i64_w, i32_w]
                rfl
               refine one_ (i := 8) (N := some 86) #[true, true, true, true, true, true, true, true, true, false, false, false, false, false, false] rfl rfl (one_of HT_.out (by kernel_rfl)) (by decide) (fun K hK => ?_)
               refine goes_ Try.func23 (by kernel_rfl) rfl #[.agg #[.int .i64 t114, .int .i64 t119, .int .i64 t123, .bool true]] (by rfl) rfl rfl (by (try simp only [List.map_toArray, List.map_cons, List.map_nil]); first | done | rfl | (simp only [List.length_drop, List.length_take]; rfl)) ?_
               with_reducible refine (sphere_angle_value.calls t114 t119 t123 true t127 _ A36.out).mono ?_
               rintro e w40 ⟨rfl, hb⟩
               refine ⟨_, rfl, ?_⟩
               have n0_ := Aside0.mk (blk_below (g := gb113) (o := .cells #[.int .i64 t114, .int .i64 t119, .int .i64 t123, .bool true] 39 (0, 0)) BK113.out hb)
               have n1_ := Aside0.mk (below_step (by with_reducible repeat first | exact HB.out | apply ba | apply bn | apply bd | refine bs ?_ GE113.out) hb)
               clear BK113
               clear HB
               have BK113 := n0_
               have HB := n1_
               clear n0_ n1_
               (try clear hb)
               (try clear hb2)
               (try clear hk)
               (try clear hi)
               refine hK.out _ _ ⟨(blk_cell BK113.out 0).trans rfl, (blk_cell BK113.out 1).trans rfl, (blk_cell BK113.out 2).trans rfl, (blk_cell BK113.out 3).trans rfl⟩ (fun hHeld => ?_)
               clear hK K
               refine norm_ (a' := ?_) ?_ ?_
               rotate_left
               ·show Act.put _ (some 86) _ = _
                simp only [Act.put, s1, s2, s3, i64_w, i32_w]
                rfl
               refine pure_ (i := 9) (N := some 87) (v := ?_) (a' := ?_) #[true, true, true, true, true, true, true, true, true, true, false, false, false, false, false] rfl rfl (any_of HT_.out (by kernel_rfl)) (fun _ _ _ h => h) (Or.inl ⟨by rfl, ?_⟩) ?_ ?_
               rotate_left
               ·intro w'
                go_simp
                with_reducible rfl
               rotate_left
               ·simp only [Act.put, s1, s2, s3, i64_w, i32_w]
                rfl
               refine pure_ (i := 10) (N := some 88) (v := ?_) (a' := ?_) #[true, true, true, true, true, true, true, true, true, true, true, false, false, false, false] rfl rfl (any_of HT_.out (by kernel_rfl)) (fun _ _ _ h => h) (Or.inl ⟨by rfl, ?_⟩) ?_ ?_
               rotate_left
               ·intro w'
                go_simp
                with_reducible rfl
               rotate_left
               ·simp only [Act.put, s1, s2, s3, i64_w, i32_w]
                rfl
               refine pure_ (i := 11) (N := some 89) (v := ?_) (a' := ?_) #[true, true, true, true, true, true, true, true, true, true, true, true, false, false, false] rfl rfl (any_of HT_.out (by kernel_rfl)) (fun _ _ _ h => h) (Or.inl ⟨by rfl, ?_⟩) ?_ ?_
               rotate_left
               ·intro w'
                go_simp
                with_reducible rfl
               rotate_left
               ·simp only [Act.put, s1, s2, s3, i64_w, i32_w]
                rfl
               refine pure_ (i := 12) (N := some 90) (v := ?_) (a' := ?_) #[true, true, true, true, true, true, true, true, true, true, true, true, true, false, false] rfl rfl (any_of HT_.out (by kernel_rfl)) (fun _ _ _ h => h) (Or.inl ⟨by rfl, ?_⟩) ?_ ?_
               rotate_left
               ·intro w'
                go_simp
                with_reducible rfl
               rotate_left
               ·simp only [Act.put, s1, s2, s3, i64_w, i32_w]
                rfl
               refine last_ (i := 13) (N := none) #[true, true, true, true, true, true, true, true, true, true, true, true, true, true, false] rfl rfl (one_of HT_.out (by kernel_rfl)) (by decide) (fun K hK => ?_)
               have hs41 : w40.cell? ⟨gb113, 0, none⟩ = some (.int .i64 t114) := (blk_cell BK113.out 0).trans rfl
               have hfs41 := blk_frozen BK113.out 0
               have hs42 : w40.cell? ⟨gb113, 1, none⟩ = some (.int .i64 t119) := (blk_cell BK113.out 1).trans rfl
               have hfs42 := blk_frozen BK113.out 1
               have hs43 : w40.cell? ⟨gb113, 2, none⟩ = some (.int .i64 t123) := (blk_cell BK113.out 2).trans rfl
               have hfs43 := blk_frozen BK113.out 2
               have hs44 : w40.cell? ⟨gb113, 3, none⟩ = some (.bool true) := (blk_cell BK113.out 3).trans rfl
               have hfs44 := blk_frozen BK113.out 3
               refine skip_ (w1 := ?_) (by rfl) rfl ?_ ?_
               rotate_left
               ·go_simp
                rfl
               refine hK.out _ _ ?_
               clear hK K
               refine pure_ (i := 14) (N := some 5) (v := ?_) (a' := ?_) #[true, true, true, true, true, true, true, true, true, true, true, true, true, true, true] rfl rfl (any_of HT_.out (by kernel_rfl)) (fun _ _ _ h => h) (Or.inl ⟨by rfl, ?_⟩) ?_ ?_
               rotate_left
               ·intro w'
                go_simp
                with_reducible rfl
               rotate_left
               ·simp only [Act.put, s1, s2, s3, i64_w, i32_w]
                rfl
               refine done_ (done_of HT_.out (by kernel_rfl)) ?_
               try go_wp2
               refine bodyPost_ret (results_ct rfl _ _ gb113 39 #[.int .i64 t114, .int .i64 t119, .int .i64 t123, .bool true] (0, 0) _ rfl (by (with_reducible repeat first | refine n_ ?_ _ | refine d_ ?_ | refine a_ ?_ _); refine blk_put (cs := #[.int .i64 t114, .int .i64 t119, .int .i64 t123, .bool true]) ?_ 3 _ rfl; (with_reducible repeat first | refine n_ ?_ _ | refine d_ ?_ | refine a_ ?_ _); refine blk_put (cs := #[.int .i64 t114, .int .i64 t119, .int .i64 t123, .bool true]) ?_ 2 _ rfl; (with_reducible repeat first | refine n_ ?_ _ | refine d_ ?_ | refine a_ ?_ _); refine blk_put (cs := #[.int .i64 t114, .int .i64 t119, .int .i64 t123, .bool true]) ?_ 1 _ rfl; (with_reducible repeat first | refine n_ ?_ _ | refine d_ ?_ | refine a_ ?_ _); refine blk_put (cs := #[.int .i64 t114, .int .i64 t119, .int .i64 t123, .bool true]) ?_ 0 _ rfl; (with_reducible repeat first | refine n_ ?_ _ | refine d_ ?_ | refine a_ ?_ _); exact BK113.out) Try.underlying39 rfl (by kernel_rfl)) rfl ?_
               exact ⟨by first | rfl | (simp [errW_none, errW_some] <;> rfl) | (simp [*, errW_none, errW_some] <;> rfl), by with_reducible repeat first | exact HB.out | apply ba | apply bn | apply bd | refine bs ?_ GE113.out⟩
              ·rw [if_neg c35] at H
               try rw [show (t126 == 1) = false from beq_eq_false_iff_ne.mpr c35] at H
               have c35b0 : (t126 == 1) = false := beq_eq_false_iff_ne.mpr c35
               have c35b1 : (t126 != 1) = true := bne_iff_ne.mpr c35
               simp only [Option.some.injEq, Prod.mk.injEq] at H
               obtain ⟨rfl, rfl, rfl, rfl, rfl⟩ := H
               have p32 : 0 ≤ (0 : Int) := (by omega)
               have q32 : 0 < t125.size := (by have : (0 : Int) < (t125.size : Int) := of_decide_eq_true (by first | (with_reducible assumption) | assumption); omega)
               have hx32 : ∀ h : 0 < t125.size, ((t125[0]'h).toNat : Int) = bt t125 0 := bt_at t125 0
               clear p32
               have qi32 : (0 < (t125.size : Int)) = True := eq_true (of_decide_eq_true (by first | (with_reducible assumption) | assumption))
               replace q32 := eq_true q32
               try go_wp2_with (first | ((with_reducible refine gate_callee (f := 35) rfl ?_); refine goesL_ (some 74) rfl rfl Try.func35 (by kernel_rfl) rfl #[.string a1, .int .u8 (bt t125 0)] rfl (by (try simp only [List.map_toArray, List.map_cons, List.map_nil]); first | done | rfl | (simp only [List.length_drop, List.length_take]; rfl)) ?_; (with_reducible refine (strings_IndexByte.calls a1 (bt t125 0) t126 _ A33.out).mono ?_); rintro e w' ⟨rfl, ⟨nd, rfl⟩⟩; refine ⟨_, rfl, ?_⟩; (try (rw [drewN_self wc]; generalize hq_ : World.drewN wc _ = wc; have n0_ : Aside0 (wc.heap[gb113]? = some (.cells #[.int .i64 t114, .int .i64 t119, .int .i64 t123, .bool false] 39 (0, 0))) := ⟨by rw [← hq_]; exact BK113.out⟩; have n1_ : Aside0 (Below w.heap.size w wc) := ⟨by rw [← hq_]; exact (by with_reducible repeat first | exact HB.out | apply ba | apply bn | apply bd | refine bs ?_ GE113.out)⟩; clear BK113 HB hq_; have BK113 := n0_; have HB := n1_; clear n0_ n1_)); have hcz45_0 : wc.cell? ⟨gb113, 0, none⟩ = some (.int .i64 t114) := (blk_cell BK113.out 0).trans rfl; have hcz45_1 : wc.cell? ⟨gb113, 1, none⟩ = some (.int .i64 t119) := (blk_cell BK113.out 1).trans rfl; have hcz45_2 : wc.cell? ⟨gb113, 2, none⟩ = some (.int .i64 t123) := (blk_cell BK113.out 2).trans rfl; have hcz45_3 : wc.cell? ⟨gb113, 3, none⟩ = some (.bool false) := (blk_cell BK113.out 3).trans rfl; have hfz45_0 := blk_frozen BK113.out 0; have hfz45_1 := blk_frozen BK113.out 1; have hfz45_2 := blk_frozen BK113.out 2; have hfz45_3 := blk_frozen BK113.out 3))
               have n0_ : Aside0 ((wc.setCell ⟨gb113, 3, none⟩ (.bool false)).heap[gb113]? = some (.cells #[.int .i64 t114, .int .i64 t119, .int .i64 t123, .bool false] 39 (0, 0))) := ⟨by (with_reducible repeat first | refine n_ ?_ _ | refine d_ ?_ | refine a_ ?_ _); refine blk_put (cs := #[.int .i64 t114, .int .i64 t119, .int .i64 t123, .bool false]) ?_ 3 _ rfl; (with_reducible repeat first | refine n_ ?_ _ | refine d_ ?_ | refine a_ ?_ _); exact BK113.out⟩
               have n1_ : Aside0 (Below w.heap.size w (wc.setCell ⟨gb113, 3, none⟩ (.bool false))) := ⟨by with_reducible repeat first | exact HB.out | apply ba | apply bn | apply bd | refine bs ?_ GE113.out⟩
               (try clear BK113)
               (try clear HB)
               generalize (wc.setCell ⟨gb113, 3, none⟩ (.bool false)) = w46 at n0_ n1_ ⊢
               have BK113 := n0_
               have HB := n1_
               clear n0_ n1_
               have n0_ := Aside0.mk (blk_drew BK113.out)
               have n1_ := Aside0.mk (below_drew1 HB.out)
               clear BK113
               clear HB
               have BK113 := n0_
               have HB := n1_
               clear n0_ n1_
               refine start_ (n := 15) (S := fun w' => w'.cell? ⟨gb113, 0, none⟩ = some (.int .i64 t114) ∧ w'.cell? ⟨gb113, 1, none⟩ = some (.int .i64 t119) ∧ w'.cell? ⟨gb113, 2, none⟩ = some (.int .i64 t123) ∧ w'.cell? ⟨gb113, 3, none⟩ = some (.bool false)) (ds := [13]) #[false, false, false, false, false, false, false, false, false, false, false, false, false, false, false] (by kernel_rfl) rfl rfl ⟨(blk_cell BK113.out 0).trans rfl, (blk_cell BK113.out 1).trans rfl, (blk_cell BK113.out 2).trans rfl, (blk_cell BK113.out 3).trans rfl⟩ (fun hHeld => ?_); refine with_tabW sphere_read.tab13 sphere_read.bits13 (fun HT_ HW_ => ?_)
               generalize w46.drew = w47 at BK113 HB hHeld ⊢
               refine pure_ (i := 1) (N := some 79) (v := ?_) (a' := ?_) #[false, true, false, false, false, false, false, false, false, false, false, false, false, false, false] rfl rfl (any_of HT_.out (by kernel_rfl)) (fun _ _ _ h => h) (Or.inl ⟨by rfl, ?_⟩) ?_ ?_
               rotate_left
               ·intro w'
                go_simp
                with_reducible rfl
               rotate_left
               ·simp only [Act.put, s1, s2, s3, i64_w, i32_w]
                rfl
               refine pure_ (i := 2) (N := some 80) (v := ?_) (a' := ?_) #[false, true, true, false, false, false, false, false, false, false, false, false, false, false, false] rfl rfl (any_of HT_.out (by kernel_rfl)) (fun _ _ _ h => h) (Or.inl ⟨by rfl, ?_⟩) ?_ ?_
               rotate_left
               ·intro w'
                go_simp
                with_reducible rfl
               rotate_left
               ·simp only [Act.put, s1, s2, s3, i64_w, i32_w]
                rfl
               refine pure_ (i := 3) (N := some 81) (v := ?_) (a' := ?_) #[false, true, true, true, false, false, false, false, false, false, false, false, false, false, false] rfl rfl (any_of HT_.out (by kernel_rfl)) (fun _ _ _ h => h) (Or.inl ⟨by rfl, ?_⟩) ?_ ?_
               rotate_left
               ·intro w'
                go_simp
                with_reducible rfl
               rotate_left
               ·simp only [Act.put, s1, s2, s3, i64_w, i32_w]
                rfl
               refine pure_ (i := 4) (N := some 82) (v := ?_) (a' := ?_) #[false, true, true, true, true, false, false, false, false, false, false, false, false, false, false] rfl rfl (any_of HT_.out (by kernel_rfl)) (fun _ _ _ h => h) (Or.inl ⟨by rfl, ?_⟩) ?_ ?_
               rotate_left
               ·intro w'
                go_simp
                with_reducible rfl
               rotate_left
               ·simp only [Act.put, s1, s2, s3, i64_w, i32_w]
                rfl
               refine take_ (i := 0) (N := some 78) (v := ?_) (a' := ?_) #[true, true, true, true, true, false, false, false, false, false, false, false, false, false, false] rfl rfl (take_ofW HT_.out HW_.out (by kernel_rfl)) (fun _ _ _ h => h) (Or.inl ⟨by rfl, ?_⟩) hHeld ?_ ?_
               rotate_left
               ·rintro w' ⟨s0, s1, s2, s3⟩
                go_simp
                with_reducible rfl
               rotate_left
               ·simp only [Act.put, s1, s2, s3, i64_w, i32_w]
                rfl
               refine take_ (i := 5) (N := some 83) (v := ?_) (a' := ?_) #[true, true, true, true, true, true, false, false, false, false, false, false, false, false, false] rfl rfl (take_ofW HT_.out HW_.out (by kernel_rfl)) (fun _ _ _ h => h) (Or.inl ⟨by rfl, ?_⟩) hHeld ?_ ?_
               rotate_left
               ·rintro w' ⟨s0, s1, s2, s3⟩
                go_simp
                with_reducible rfl
               rotate_left
               ·simp only [Act.put, s1, s2, s3, i64_w, i32_w]
                rfl
               refine pure_ (i := 6) (N := some 84) (v := ?_) (a' := ?_) #[true, true, true, true, true, true, true, false, false, false, false, false, false, false, false] rfl rfl (any_of HT_.out (by kernel_rfl)) (fun _ _ _ h => h) (Or.inl ⟨by rfl, ?_⟩) ?_ ?_
               rotate_left
               ·intro w'
                go_simp
                with_reducible rfl
               rotate_left
               ·simp only [Act.put, s1, s2, s3, i64_w, i32_w]
                rfl
               refine pure_ (i := 7) (N := some 85) (v := undef) (a' := ?_) #[true, true, true, true, true, true, true, true, false, false, false, false, false, false, false] rfl rfl (any_of HT_.out (by kernel_rfl)) (fun _ _ _ h => h) (Or.inr ⟨by rfl, rfl⟩) ?_ ?_
               rotate_left
               ·simp only [Act.put, s1, s2, s3, i64_w, i32_w]
                rfl
               refine pure_ (i := 8) (N := some 86) (v := undef) (a' := ?_) #[true, true, true, true, true, true, true, true, true, false, false, false, false, false, false] rfl rfl (any_of HT_.out (by kernel_rfl)) (fun _ _ _ h => h) (Or.inr ⟨by rfl, rfl⟩) ?_ ?_
               rotate_left
               ·simp only [Act.put, s1, s2, s3, i64_w, i32_w]
                rfl
               refine pure_ (i := 9) (N := some 87) (v := undef) (a' := ?_) #[true, true, true, true, true, true, true, true, true, true, false, false, false, false, false] rfl rfl (any_of HT_.out (by kernel_rfl)) (fun _ _ _ h => h) (Or.inr ⟨by rfl, rfl⟩) ?_ ?_
               rotate_left
               ·simp only [Act.put, s1, s2, s3, i64_w, i32_w]
                rfl
               refine pure_ (i := 10) (N := some 88) (v := ?_) (a' := ?_) #[true, true, true, true, true, true, true, true, true, true, true, false, false, false, false] rfl rfl (any_of HT_.out (by kernel_rfl)) (fun _ _ _ h => h) (Or.inl ⟨by rfl, ?_⟩) ?_ ?_
               rotate_left
               ·intro w'
                go_simp
                with_reducible rfl
               rotate_left
               ·simp only [Act.put, s1, s2, s3, i64_w, i32_w]
                rfl
               refine pure_ (i := 11) (N := some 89) (v := ?_) (a' := ?_) #[true, true, true, true, true, true, true, true, true, true, true, true, false, false, false] rfl rfl (any_of HT_.out (by kernel_rfl)) (fun _ _ _ h => h) (Or.inl ⟨by rfl, ?_⟩) ?_ ?_
               rotate_left
               ·intro w'
                go_simp
                with_reducible rfl
               rotate_left
               ·simp only [Act.put, s1, s2, s3, i64_w, i32_w]
                rfl
               refine pure_ (i := 12) (N := some 90) (v := ?_) (a' := ?_) #[true, true, true, true, true, true, true, true, true, true, true, true, true, false, false] rfl rfl (any_of HT_.out (by kernel_rfl)) (fun _ _ _ h => h) (Or.inl ⟨by rfl, ?_⟩) ?_ ?_
               rotate_left
               ·intro w'
                go_simp
                with_reducible rfl
               rotate_left
               ·simp only [Act.put, s1, s2, s3, i64_w, i32_w]
                rfl
               refine last_ (i := 13) (N := none) #[true, true, true, true, true, true, true, true, true, true, true, true, true, true, false] rfl rfl (one_of HT_.out (by kernel_rfl)) (by decide) (fun K hK => ?_)
               have hs48 : w47.cell? ⟨gb113, 0, none⟩ = some (.int .i64 t114) := (blk_cell BK113.out 0).trans rfl
               have hfs48 := blk_frozen BK113.out 0
               have hs49 : w47.cell? ⟨gb113, 1, none⟩ = some (.int .i64 t119) := (blk_cell BK113.out 1).trans rfl
               have hfs49 := blk_frozen BK113.out 1
               have hs50 : w47.cell? ⟨gb113, 2, none⟩ = some (.int .i64 t123) := (blk_cell BK113.out 2).trans rfl
               have hfs50 := blk_frozen BK113.out 2
               have hs51 : w47.cell? ⟨gb113, 3, none⟩ = some (.bool false) := (blk_cell BK113.out 3).trans rfl
               have hfs51 := blk_frozen BK113.out 3
               refine skip_ (w1 := ?_) (by rfl) rfl ?_ ?_
               rotate_left
               ·go_simp
                rfl
               refine hK.out _ _ ?_
               clear hK K
               refine pure_ (i := 14) (N := some 5) (v := ?_) (a' := ?_) #[true, true, true, true, true, true, true, true, true, true, true, true, true, true, true] rfl rfl (any_of HT_.out (by kernel_rfl)) (fun _ _ _ h => h) (Or.inl ⟨by rfl, ?_⟩) ?_ ?_
               rotate_left
               ·intro w'
                go_simp
                with_reducible rfl
               rotate_left
               ·simp only [Act.put, s1, s2, s3, i64_w, i32_w]
                rfl
               refine done_ (done_of HT_.out (by kernel_rfl)) ?_
               try go_wp2
               refine bodyPost_ret (results_ct rfl _ _ gb113 39 #[.int .i64 t114, .int .i64 t119, .int .i64 t123, .bool false] (0, 0) _ rfl (by (with_reducible repeat first | refine n_ ?_ _ | refine d_ ?_ | refine a_ ?_ _); refine blk_put (cs := #[.int .i64 t114, .int .i64 t119, .int .i64 t123, .bool false]) ?_ 3 _ rfl; (with_reducible repeat first | refine n_ ?_ _ | refine d_ ?_ | refine a_ ?_ _); refine blk_put (cs := #[.int .i64 t114, .int .i64 t119, .int .i64 t123, .bool false]) ?_ 2 _ rfl; (with_reducible repeat first | refine n_ ?_ _ | refine d_ ?_ | refine a_ ?_ _); refine blk_put (cs := #[.int .i64 t114, .int .i64 t119, .int .i64 t123, .bool false]) ?_ 1 _ rfl; (with_reducible repeat first | refine n_ ?_ _ | refine d_ ?_ | refine a_ ?_ _); refine blk_put (cs := #[.int .i64 t114, .int .i64 t119, .int .i64 t123, .bool false]) ?_ 0 _ rfl; (with_reducible repeat first | refine n_ ?_ _ | refine d_ ?_ | refine a_ ?_ _); exact BK113.out) Try.underlying39 rfl (by kernel_rfl)) rfl ?_
               exact ⟨by first | rfl | (simp [errW_none, errW_some] <;> rfl) | (simp [*, errW_none, errW_some] <;> rfl), by with_reducible repeat first | exact HB.out | apply ba | apply bn | apply bd | refine bs ?_ GE113.out⟩
             ·rw [if_neg c34] at H
              have c34b0 : decide (0 ≤ t126) = false := decide_eq_false c34
              clear c34
              simp only [Option.some.injEq, Prod.mk.injEq] at H
              obtain ⟨rfl, rfl, rfl, rfl, rfl⟩ := H
              have p32 : 0 ≤ (0 : Int) := (by omega)
              have q32 : 0 < t125.size := (by have : (0 : Int) < (t125.size : Int) := of_decide_eq_true (by first | (with_reducible assumption) | assumption); omega)
              have hx32 : ∀ h : 0 < t125.size, ((t125[0]'h).toNat : Int) = bt t125 0 := bt_at t125 0
              clear p32
              have qi32 : (0 < (t125.size : Int)) = True := eq_true (of_decide_eq_true (by first | (with_reducible assumption) | assumption))
              replace q32 := eq_true q32
              try go_wp2_with (first | ((with_reducible refine gate_callee (f := 35) rfl ?_); refine goesL_ (some 74) rfl rfl Try.func35 (by kernel_rfl) rfl #[.string a1, .int .u8 (bt t125 0)] rfl (by (try simp only [List.map_toArray, List.map_cons, List.map_nil]); first | done | rfl | (simp only [List.length_drop, List.length_take]; rfl)) ?_; (with_reducible refine (strings_IndexByte.calls a1 (bt t125 0) t126 _ A33.out).mono ?_); rintro e w' ⟨rfl, ⟨nd, rfl⟩⟩; refine ⟨_, rfl, ?_⟩; (try (rw [drewN_self wc]; generalize hq_ : World.drewN wc _ = wc; have n0_ : Aside0 (wc.heap[gb113]? = some (.cells #[.int .i64 t114, .int .i64 t119, .int .i64 t123, .bool false] 39 (0, 0))) := ⟨by rw [← hq_]; exact BK113.out⟩; have n1_ : Aside0 (Below w.heap.size w wc) := ⟨by rw [← hq_]; exact (by with_reducible repeat first | exact HB.out | apply ba | apply bn | apply bd | refine bs ?_ GE113.out)⟩; clear BK113 HB hq_; have BK113 := n0_; have HB := n1_; clear n0_ n1_)); have hcz52_0 : wc.cell? ⟨gb113, 0, none⟩ = some (.int .i64 t114) := (blk_cell BK113.out 0).trans rfl; have hcz52_1 : wc.cell? ⟨gb113, 1, none⟩ = some (.int .i64 t119) := (blk_cell BK113.out 1).trans rfl; have hcz52_2 : wc.cell? ⟨gb113, 2, none⟩ = some (.int .i64 t123) := (blk_cell BK113.out 2).trans rfl; have hcz52_3 : wc.cell? ⟨gb113, 3, none⟩ = some (.bool false) := (blk_cell BK113.out 3).trans rfl; have hfz52_0 := blk_frozen BK113.out 0; have hfz52_1 := blk_frozen BK113.out 1; have hfz52_2 := blk_frozen BK113.out 2; have hfz52_3 := blk_frozen BK113.out 3))
              have n0_ : Aside0 ((wc.setCell ⟨gb113, 3, none⟩ (.bool (t126 == 1))).heap[gb113]? = some (.cells #[.int .i64 t114, .int .i64 t119, .int .i64 t123, .bool (t126 == 1)] 39 (0, 0))) := ⟨by (with_reducible repeat first | refine n_ ?_ _ | refine d_ ?_ | refine a_ ?_ _); refine blk_put (cs := #[.int .i64 t114, .int .i64 t119, .int .i64 t123, .bool false]) ?_ 3 _ rfl; (with_reducible repeat first | refine n_ ?_ _ | refine d_ ?_ | refine a_ ?_ _); exact BK113.out⟩
              have n1_ : Aside0 (Below w.heap.size w (wc.setCell ⟨gb113, 3, none⟩ (.bool (t126 == 1)))) := ⟨by with_reducible repeat first | exact HB.out | apply ba | apply bn | apply bd | refine bs ?_ GE113.out⟩
              (try clear BK113)
              (try clear HB)
              generalize (wc.setCell ⟨gb113, 3, none⟩ (.bool (t126 == 1))) = w53 at n0_ n1_ ⊢
              have BK113 := n0_
              have HB := n1_
              clear n0_ n1_
              have n0_ := Aside0.mk (blk_drew BK113.out)
              have n1_ := Aside0.mk (below_drew1 HB.out)
              clear BK113
              clear HB
              have BK113 := n0_
              have HB := n1_
              clear n0_ n1_
              refine start_ (n := 15) (S := fun w' => w'.cell? ⟨gb113, 0, none⟩ = some (.int .i64 t114) ∧ w'.cell? ⟨gb113, 1, none⟩ = some (.int .i64 t119) ∧ w'.cell? ⟨gb113, 2, none⟩ = some (.int .i64 t123) ∧ w'.cell? ⟨gb113, 3, none⟩ = some (.bool (t126 == 1))) (ds := [13]) #[false, false, false, false, false, false, false, false, false, false, false, false, false, false, false] (by kernel_rfl) rfl rfl ⟨(blk_cell BK113.out 0).trans rfl, (blk_cell BK113.out 1).trans rfl, (blk_cell BK113.out 2).trans rfl, (blk_cell BK113.out 3).trans rfl⟩ (fun hHeld => ?_); refine with_tabW sphere_read.tab13 sphere_read.bits13 (fun HT_ HW_ => ?_)
              generalize w53.drew = w54 at BK113 HB hHeld ⊢
              refine pure_ (i := 1) (N := some 79) (v := ?_) (a' := ?_) #[false, true, false, false, false, false, false, false, false, false, false, false, false, false, false] rfl rfl (any_of HT_.out (by kernel_rfl)) (fun _ _ _ h => h) (Or.inl ⟨by rfl, ?_⟩) ?_ ?_
              rotate_left
              ·intro w'
               go_simp
               with_reducible rfl
              rotate_left
              ·simp only [Act.put, s1, s2, s3, i64_w, i32_w]
               rfl
              refine pure_ (i := 2) (N := some 80) (v := ?_) (a' := ?_) #[false, true, true, false, false, false, false, false, false, false, false, false, false, false, false] rfl rfl (any_of HT_.out (by kernel_rfl)) (fun _ _ _ h => h) (Or.inl ⟨by rfl, ?_⟩) ?_ ?_
              rotate_left
              ·intro w'
               go_simp
               with_reducible rfl
              rotate_left
              ·simp only [Act.put, s1, s2, s3, i64_w, i32_w]
               rfl
              refine pure_ (i := 3) (N := some 81) (v := ?_) (a' := ?_) #[false, true, true, true, false, false, false, false, false, false, false, false, false, false, false] rfl rfl (any_of HT_.out (by kernel_rfl)) (fun _ _ _ h => h) (Or.inl ⟨by rfl, ?_⟩) ?_ ?_
              rotate_left
              ·intro w'
               go_simp
               with_reducible rfl
              rotate_left
              ·simp only [Act.put, s1, s2, s3, i64_w, i32_w]
               rfl
              refine pure_ (i := 4) (N := some 82) (v := undef) (a' := ?_) #[false, true, true, true, true, false, false, false, false, false, false, false, false, false, false] rfl rfl (any_of HT_.out (by kernel_rfl)) (fun _ _ _ h => h) (Or.inr ⟨by rfl, rfl⟩) ?_ ?_
              rotate_left
              ·simp only [Act.put, s1, s2, s3, i64_w, i32_w]
               rfl
              refine pure_ (i := 5) (N := some 83) (v := undef) (a' := ?_) #[false, true, true, true, true, true, false, false, false, false, false, false, false, false, false] rfl rfl (any_of HT_.out (by kernel_rfl)) (fun _ _ _ h => h) (Or.inr ⟨by rfl, rfl⟩) ?_ ?_
              rotate_left
              ·simp only [Act.put, s1, s2, s3, i64_w, i32_w]
               rfl
              refine pure_ (i := 6) (N := some 84) (v := undef) (a' := ?_) #[false, true, true, true, true, true, true, false, false, false, false, false, false, false, false] rfl rfl (any_of HT_.out (by kernel_rfl)) (fun _ _ _ h => h) (Or.inr ⟨by rfl, rfl⟩) ?_ ?_
              rotate_left
              ·simp only [Act.put, s1, s2, s3, i64_w, i32_w]
               rfl
              refine pure_ (i := 7) (N := some 85) (v := undef) (a' := ?_) #[false, true, true, true, true, true, true, true, false, false, false, false, false, false, false] rfl rfl (any_of HT_.out (by kernel_rfl)) (fun _ _ _ h => h) (Or.inr ⟨by rfl, rfl⟩) ?_ ?_
              rotate_left
              ·simp only [Act.put, s1, s2, s3, i64_w, i32_w]
               rfl
              refine pure_ (i := 8) (N := some 86) (v := undef) (a' := ?_) #[false, true, true, true, true, true, true, true, true, false, false, false, false, false, false] rfl rfl (any_of HT_.out (by kernel_rfl)) (fun _ _ _ h => h) (Or.inr ⟨by rfl, rfl⟩) ?_ ?_
              rotate_left
              ·simp only [Act.put, s1, s2, s3, i64_w, i32_w]
               rfl
              refine pure_ (i := 9) (N := some 87) (v := undef) (a' := ?_) #[false, true, true, true, true, true, true, true, true, true, false, false, false, false, false] rfl rfl (any_of HT_.out (by kernel_rfl)) (fun _ _ _ h => h) (Or.inr ⟨by rfl, rfl⟩) ?_ ?_
              rotate_left
              ·simp only [Act.put, s1, s2, s3, i64_w, i32_w]
               rfl
              refine pure_ (i := 10) (N := some 88) (v := undef) (a' := ?_) #[false, true, true, true, true, true, true, true, true, true, true, false, false, false, false] rfl rfl (any_of HT_.out (by kernel_rfl)) (fun _ _ _ h => h) (Or.inr ⟨by rfl, rfl⟩) ?_ ?_
              rotate_left
              ·simp only [Act.put, s1, s2, s3, i64_w, i32_w]
               rfl
              refine pure_ (i := 11) (N := some 89) (v := undef) (a' := ?_) #[false, true, true, true, true, true, true, true, true, true, true, true, false, false, false] rfl rfl (any_of HT_.out (by kernel_rfl)) (fun _ _ _ h => h) (Or.inr ⟨by rfl, rfl⟩) ?_ ?_
              rotate_left
              ·simp only [Act.put, s1, s2, s3, i64_w, i32_w]
               rfl
              refine pure_ (i := 12) (N := some 90) (v := ?_) (a' := ?_) #[false, true, true, true, true, true, true, true, true, true, true, true, true, false, false] rfl rfl (any_of HT_.out (by kernel_rfl)) (fun _ _ _ h => h) (Or.inl ⟨by rfl, ?_⟩) ?_ ?_
              rotate_left
              ·intro w'
               go_simp
               with_reducible rfl
              rotate_left
              ·simp only [Act.put, s1, s2, s3, i64_w, i32_w]
               rfl
              refine take_ (i := 0) (N := some 78) (v := ?_) (a' := ?_) #[true, true, true, true, true, true, true, true, true, true, true, true, true, false, false] rfl rfl (take_ofW HT_.out HW_.out (by kernel_rfl)) (fun _ _ _ h => h) (Or.inl ⟨by rfl, ?_⟩) hHeld ?_ ?_
              rotate_left
              ·rintro w' ⟨s0, s1, s2, s3⟩
               go_simp
               with_reducible rfl
              rotate_left
              ·simp only [Act.put, s1, s2, s3, i64_w, i32_w]
               rfl
              refine last_ (i := 13) (N := none) #[true, true, true, true, true, true, true, true, true, true, true, true, true, true, false] rfl rfl (one_of HT_.out (by kernel_rfl)) (by decide) (fun K hK => ?_)
              have hs55 : w54.cell? ⟨gb113, 0, none⟩ = some (.int .i64 t114) := (blk_cell BK113.out 0).trans rfl
              have hfs55 := blk_frozen BK113.out 0
              have hs56 : w54.cell? ⟨gb113, 1, none⟩ = some (.int .i64 t119) := (blk_cell BK113.out 1).trans rfl
              have hfs56 := blk_frozen BK113.out 1
              have hs57 : w54.cell? ⟨gb113, 2, none⟩ = some (.int .i64 t123) := (blk_cell BK113.out 2).trans rfl
              have hfs57 := blk_frozen BK113.out 2
              have hs58 : w54.cell? ⟨gb113, 3, none⟩ = some (.bool (t126 == 1)) := (blk_cell BK113.out 3).trans rfl
              have hfs58 := blk_frozen BK113.out 3
              refine skip_ (w1 := ?_) (by rfl) rfl ?_ ?_
              rotate_left
              ·go_simp
               rfl
              refine hK.out _ _ ?_
              clear hK K
              refine pure_ (i := 14) (N := some 5) (v := ?_) (a' := ?_) #[true, true, true, true, true, true, true, true, true, true, true, true, true, true, true] rfl rfl (any_of HT_.out (by kernel_rfl)) (fun _ _ _ h => h) (Or.inl ⟨by rfl, ?_⟩) ?_ ?_
              rotate_left
              ·intro w'
               go_simp
               with_reducible rfl
              rotate_left
              ·simp only [Act.put, s1, s2, s3, i64_w, i32_w]
               rfl
              refine done_ (done_of HT_.out (by kernel_rfl)) ?_
              try go_wp2
              refine bodyPost_ret (results_ct rfl _ _ gb113 39 #[.int .i64 t114, .int .i64 t119, .int .i64 t123, .bool (t126 == 1)] (0, 0) _ rfl (by (with_reducible repeat first | refine n_ ?_ _ | refine d_ ?_ | refine a_ ?_ _); refine blk_put (cs := #[.int .i64 t114, .int .i64 t119, .int .i64 t123, .bool (t126 == 1)]) ?_ 3 _ rfl; (with_reducible repeat first | refine n_ ?_ _ | refine d_ ?_ | refine a_ ?_ _); refine blk_put (cs := #[.int .i64 t114, .int .i64 t119, .int .i64 t123, .bool (t126 == 1)]) ?_ 2 _ rfl; (with_reducible repeat first | refine n_ ?_ _ | refine d_ ?_ | refine a_ ?_ _); refine blk_put (cs := #[.int .i64 t114, .int .i64 t119, .int .i64 t123, .bool (t126 == 1)]) ?_ 1 _ rfl; (with_reducible repeat first | refine n_ ?_ _ | refine d_ ?_ | refine a_ ?_ _); refine blk_put (cs := #[.int .i64 t114, .int .i64 t119, .int .i64 t123, .bool (t126 == 1)]) ?_ 0 _ rfl; (with_reducible repeat first | refine n_ ?_ _ | refine d_ ?_ | refine a_ ?_ _); exact BK113.out) Try.underlying39 rfl (by kernel_rfl)) rfl ?_
              exact ⟨by first | rfl | (simp [errW_none, errW_some] <;> rfl) | (simp [*, errW_none, errW_some] <;> rfl), by with_reducible repeat first | exact HB.out | apply ba | apply bn | apply bd | refine bs ?_ GE113.out⟩
            ·rw [if_neg c31] at H
             exact absurd H (by simp)
        ·rw [if_neg c24] at H
         exact absurd H (by simp)
    ·rw [if_neg c16] at H
     exact absurd H (by simp)

end Go.Proofs.Yteojklacaecmpaa.P
