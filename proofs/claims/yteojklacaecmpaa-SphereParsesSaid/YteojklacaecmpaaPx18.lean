-- Written by wip/tools/xprint.py (this session's program, over the kit's print.py) for this seat.
import Derived.Test.YteojklacaecmpaaPx0
import Derived.Test.YteojklacaecmpaaPx17
namespace Go.Proofs.Yteojklacaecmpaa.P
open Go.RowKit Go.Proofs.YteojklacaecmpaaW.PrintWords Go.Proofs.YteojklacaecmpaaW.PrintLast Go.Proofs.YteojklacaecmpaaW.PrintMore
attribute [local go_sem] max2_int min2_int max_two min_two max_three min_three max_four min_four   -- for this text's walks alone
set_option linter.unusedVariables false
set_option linter.unusedSimpArgs false

/-! ### mapsheetsref12_read: function 25 -/
mutual
def mapsheetsref12_read.j0 : Nat → ByteArray → Int → Int → Int → Bool → Option (Int × Bool × Bool)
 | 0, _, _, _, _, _ => none
 | k + 1, x0, x1, x2, x7, x46 => if x46 = true then (some (0, false, false)) else (if 0 ≤ x7 then (if x7 ≤ (x0.size : Int) then ((mapsheetsref12_digits.f k (x0.extract 0 (x7 : Int).toNat)).bind fun bt265 => (if 0 ≤ (wrap64 (x7 + 1)) then (if (wrap64 (x7 + 1)) ≤ (wrap64 (x7 + 3)) then (if (wrap64 (x7 + 3)) ≤ (x0.size : Int) then ((mapsheetsref12_digits.f k (x0.extract ((wrap64 (x7 + 1)) : Int).toNat ((wrap64 (x7 + 3)) : Int).toNat)).bind fun bt267 => (if 0 ≤ (wrap64 (x7 + 4)) then (if (wrap64 (x7 + 4)) ≤ (wrap64 (x7 + 6)) then (if (wrap64 (x7 + 6)) ≤ (x0.size : Int) then ((mapsheetsref12_digits.f k (x0.extract ((wrap64 (x7 + 4)) : Int).toNat ((wrap64 (x7 + 6)) : Int).toNat)).bind fun bt269 => (if 0 ≤ (wrap64 (x7 + 6)) then (if (wrap64 (x7 + 6)) < (x0.size : Int) then (if bt265.2 = true then (if bt267.2 = true then (if bt269.2 = true then (if (bt x0 (wrap64 (x7 + 6))) = x1 then (if (bt x0 (wrap64 (x7 + 6))) = x2 then (if bt265.1 = 0 then (if bt267.1 = 0 then (mapsheetsref12_read.j1 k x2 bt267.1 bt269.1 (bt x0 (wrap64 (x7 + 6))) (wrap64 ((wrap64 ((wrap64 (bt265.1 * 3600)) + (wrap64 (bt267.1 * 60)))) + bt269.1)) (bt269.1 == 0)) else (mapsheetsref12_read.j1 k x2 bt267.1 bt269.1 (bt x0 (wrap64 (x7 + 6))) (wrap64 ((wrap64 ((wrap64 (bt265.1 * 3600)) + (wrap64 (bt267.1 * 60)))) + bt269.1)) false)) else (mapsheetsref12_read.j1 k x2 bt267.1 bt269.1 (bt x0 (wrap64 (x7 + 6))) (wrap64 ((wrap64 ((wrap64 (bt265.1 * 3600)) + (wrap64 (bt267.1 * 60)))) + bt269.1)) false)) else (mapsheetsref12_read.j1 k x2 bt267.1 bt269.1 (bt x0 (wrap64 (x7 + 6))) (wrap64 ((wrap64 ((wrap64 (bt265.1 * 3600)) + (wrap64 (bt267.1 * 60)))) + bt269.1)) false)) else (if (bt x0 (wrap64 (x7 + 6))) = x2 then (if bt265.1 = 0 then (if bt267.1 = 0 then (mapsheetsref12_read.j1 k x2 bt267.1 bt269.1 (bt x0 (wrap64 (x7 + 6))) (wrap64 ((wrap64 ((wrap64 (bt265.1 * 3600)) + (wrap64 (bt267.1 * 60)))) + bt269.1)) (bt269.1 == 0)) else (mapsheetsref12_read.j1 k x2 bt267.1 bt269.1 (bt x0 (wrap64 (x7 + 6))) (wrap64 ((wrap64 ((wrap64 (bt265.1 * 3600)) + (wrap64 (bt267.1 * 60)))) + bt269.1)) false)) else (mapsheetsref12_read.j1 k x2 bt267.1 bt269.1 (bt x0 (wrap64 (x7 + 6))) (wrap64 ((wrap64 ((wrap64 (bt265.1 * 3600)) + (wrap64 (bt267.1 * 60)))) + bt269.1)) false)) else (mapsheetsref12_read.j1 k x2 bt267.1 bt269.1 (bt x0 (wrap64 (x7 + 6))) (wrap64 ((wrap64 ((wrap64 (bt265.1 * 3600)) + (wrap64 (bt267.1 * 60)))) + bt269.1)) true))) else (mapsheetsref12_read.j1 k x2 bt267.1 bt269.1 (bt x0 (wrap64 (x7 + 6))) (wrap64 ((wrap64 ((wrap64 (bt265.1 * 3600)) + (wrap64 (bt267.1 * 60)))) + bt269.1)) true)) else (mapsheetsref12_read.j1 k x2 bt267.1 bt269.1 (bt x0 (wrap64 (x7 + 6))) (wrap64 ((wrap64 ((wrap64 (bt265.1 * 3600)) + (wrap64 (bt267.1 * 60)))) + bt269.1)) true)) else (mapsheetsref12_read.j1 k x2 bt267.1 bt269.1 (bt x0 (wrap64 (x7 + 6))) (wrap64 ((wrap64 ((wrap64 (bt265.1 * 3600)) + (wrap64 (bt267.1 * 60)))) + bt269.1)) true)) else (none)) else (none))) else (none)) else (none)) else (none))) else (none)) else (none)) else (none))) else (none)) else (none))
def mapsheetsref12_read.j1 : Nat → Int → Int → Int → Int → Int → Bool → Option (Int × Bool × Bool)
 | 0, _, _, _, _, _, _ => none
 | k + 1, x2, x10, x12, x14, x15, x122 => if x122 = true then (some (0, false, false)) else (if x14 = x2 then (if x10 < 60 then (some (wrap64 (-x15), true, decide (x12 < 60))) else (some (wrap64 (-x15), true, false))) else (if x10 < 60 then (some (x15, true, decide (x12 < 60))) else (some (x15, true, false))))
end
def mapsheetsref12_read.f (k : Nat) (a0 : ByteArray) (a1 : Int) (a2 : Int) : Option (Int × Bool × Bool) := if (wrap64 ((a0.size : Int) - 7)) < 1 then (mapsheetsref12_read.j0 k a0 a1 a2 (wrap64 ((a0.size : Int) - 7)) true) else (if (wrap64 ((a0.size : Int) - 7)) > 3 then (mapsheetsref12_read.j0 k a0 a1 a2 (wrap64 ((a0.size : Int) - 7)) true) else (if (wrap64 ((a0.size : Int) - 7)) > 1 then (if 0 < (a0.size : Int) then (if (bt a0 0) = 48 then (mapsheetsref12_read.j0 k a0 a1 a2 (wrap64 ((a0.size : Int) - 7)) true) else (if 0 ≤ (wrap64 ((a0.size : Int) - 7)) then (if (wrap64 ((a0.size : Int) - 7)) < (a0.size : Int) then (if (bt a0 (wrap64 ((a0.size : Int) - 7))) = 45 then (if 0 ≤ (wrap64 ((wrap64 ((a0.size : Int) - 7)) + 3)) then (if (wrap64 ((wrap64 ((a0.size : Int) - 7)) + 3)) < (a0.size : Int) then (mapsheetsref12_read.j0 k a0 a1 a2 (wrap64 ((a0.size : Int) - 7)) ((bt a0 (wrap64 ((wrap64 ((a0.size : Int) - 7)) + 3))) != 45)) else (none)) else (none)) else (mapsheetsref12_read.j0 k a0 a1 a2 (wrap64 ((a0.size : Int) - 7)) true)) else (none)) else (none))) else (none)) else (if 0 ≤ (wrap64 ((a0.size : Int) - 7)) then (if (wrap64 ((a0.size : Int) - 7)) < (a0.size : Int) then (if (bt a0 (wrap64 ((a0.size : Int) - 7))) = 45 then (if 0 ≤ (wrap64 ((wrap64 ((a0.size : Int) - 7)) + 3)) then (if (wrap64 ((wrap64 ((a0.size : Int) - 7)) + 3)) < (a0.size : Int) then (mapsheetsref12_read.j0 k a0 a1 a2 (wrap64 ((a0.size : Int) - 7)) ((bt a0 (wrap64 ((wrap64 ((a0.size : Int) - 7)) + 3))) != 45)) else (none)) else (none)) else (mapsheetsref12_read.j0 k a0 a1 a2 (wrap64 ((a0.size : Int) - 7)) true)) else (none)) else (none))))
theorem mapsheetsref12_read.mono_l : ∀ k, (∀ y0 y1 y2 y3 y4, LeO (mapsheetsref12_read.j0 k y0 y1 y2 y3 y4) (mapsheetsref12_read.j0 (k + 1) y0 y1 y2 y3 y4)) ∧ (∀ y0 y1 y2 y3 y4 y5, LeO (mapsheetsref12_read.j1 k y0 y1 y2 y3 y4 y5) (mapsheetsref12_read.j1 (k + 1) y0 y1 y2 y3 y4 y5))
 | 0 => ⟨fun _ _ _ _ _ r h => by simp [mapsheetsref12_read.j0] at h, fun _ _ _ _ _ _ r h => by simp [mapsheetsref12_read.j1] at h⟩
 | k + 1 => by
  obtain ⟨ih0, ih1⟩ := mapsheetsref12_read.mono_l k
  refine ⟨?_, ?_⟩
  ·intro y0 y1 y2 y3 y4
   unfold mapsheetsref12_read.j0
   repeat' first
   | (with_reducible exact ih0 _ _ _ _ _)
   | (with_reducible exact ih1 _ _ _ _ _ _)
   | (with_reducible exact mapsheetsref12_digits.mono _ _)
   | (with_reducible exact LeO.refl _)
   | (with_reducible exact LeO.none _)
   | (with_reducible refine LeO.ite ?_ ?_)
   | (with_reducible refine LeO.bind ?_ (fun _ => ?_))
   | exact ih0 _ _ _ _ _
   | exact ih1 _ _ _ _ _ _
   | exact mapsheetsref12_digits.mono _ _
   | exact LeO.none _
   | refine LeO.ite ?_ ?_
   | refine LeO.bind ?_ (fun _ => ?_)
  ·intro y0 y1 y2 y3 y4 y5
   unfold mapsheetsref12_read.j1
   repeat' first
   | (with_reducible exact ih0 _ _ _ _ _)
   | (with_reducible exact ih1 _ _ _ _ _ _)
   | (with_reducible exact mapsheetsref12_digits.mono _ _)
   | (with_reducible exact LeO.refl _)
   | (with_reducible exact LeO.none _)
   | (with_reducible refine LeO.ite ?_ ?_)
   | (with_reducible refine LeO.bind ?_ (fun _ => ?_))
   | exact ih0 _ _ _ _ _
   | exact ih1 _ _ _ _ _ _
   | exact mapsheetsref12_digits.mono _ _
   | exact LeO.none _
   | refine LeO.ite ?_ ?_
   | refine LeO.bind ?_ (fun _ => ?_)
theorem mapsheetsref12_read.mono : ∀ a0 a1 a2 k, LeO (mapsheetsref12_read.f k a0 a1 a2) (mapsheetsref12_read.f (k + 1) a0 a1 a2) := by
 intro a0 a1 a2 k
 obtain ⟨ih0, ih1⟩ := mapsheetsref12_read.mono_l k
 unfold mapsheetsref12_read.f
 repeat' first
   | (with_reducible exact ih0 _ _ _ _ _)
   | (with_reducible exact ih1 _ _ _ _ _ _)
   | (with_reducible exact mapsheetsref12_digits.mono _ _)
   | (with_reducible exact LeO.refl _)
   | (with_reducible exact LeO.none _)
   | (with_reducible refine LeO.ite ?_ ?_)
   | (with_reducible refine LeO.bind ?_ (fun _ => ?_))
   | exact ih0 _ _ _ _ _
   | exact ih1 _ _ _ _ _ _
   | exact mapsheetsref12_digits.mono _ _
   | exact LeO.none _
   | refine LeO.ite ?_ ?_
   | refine LeO.bind ?_ (fun _ => ?_)
set_option maxHeartbeats 8000000 in
set_option maxRecDepth 100000 in
theorem mapsheetsref12_read.calls (k : Nat) (a0 : ByteArray) (a1 : Int) (a2 : Int) (r1 : Int) (r2 : Bool) (r3 : Bool) (w : World) (h : mapsheetsref12_read.f k a0 a1 a2 = some (r1, r2, r3)) :
  Calls Try.prog 25 #[.string a0, .int .u8 a1, .int .u8 a2] w fun e w' => e = .returned (.agg #[.int .i64 r1, .bool r2, .bool r3]) ∧ Below w.heap.size w w' := by
 have hu44 := Try.underlying44
 have HB := Aside0.mk (Below.refl w.heap.size w)
 have H : (if (wrap64 ((a0.size : Int) - 7)) < 1 then (mapsheetsref12_read.j0 k a0 a1 a2 (wrap64 ((a0.size : Int) - 7)) true) else (if (wrap64 ((a0.size : Int) - 7)) > 3 then (mapsheetsref12_read.j0 k a0 a1 a2 (wrap64 ((a0.size : Int) - 7)) true) else (if (wrap64 ((a0.size : Int) - 7)) > 1 then (if 0 < (a0.size : Int) then (if (bt a0 0) = 48 then (mapsheetsref12_read.j0 k a0 a1 a2 (wrap64 ((a0.size : Int) - 7)) true) else (if 0 ≤ (wrap64 ((a0.size : Int) - 7)) then (if (wrap64 ((a0.size : Int) - 7)) < (a0.size : Int) then (if (bt a0 (wrap64 ((a0.size : Int) - 7))) = 45 then (if 0 ≤ (wrap64 ((wrap64 ((a0.size : Int) - 7)) + 3)) then (if (wrap64 ((wrap64 ((a0.size : Int) - 7)) + 3)) < (a0.size : Int) then (mapsheetsref12_read.j0 k a0 a1 a2 (wrap64 ((a0.size : Int) - 7)) ((bt a0 (wrap64 ((wrap64 ((a0.size : Int) - 7)) + 3))) != 45)) else (none)) else (none)) else (mapsheetsref12_read.j0 k a0 a1 a2 (wrap64 ((a0.size : Int) - 7)) true)) else (none)) else (none))) else (none)) else (if 0 ≤ (wrap64 ((a0.size : Int) - 7)) then (if (wrap64 ((a0.size : Int) - 7)) < (a0.size : Int) then (if (bt a0 (wrap64 ((a0.size : Int) - 7))) = 45 then (if 0 ≤ (wrap64 ((wrap64 ((a0.size : Int) - 7)) + 3)) then (if (wrap64 ((wrap64 ((a0.size : Int) - 7)) + 3)) < (a0.size : Int) then (mapsheetsref12_read.j0 k a0 a1 a2 (wrap64 ((a0.size : Int) - 7)) ((bt a0 (wrap64 ((wrap64 ((a0.size : Int) - 7)) + 3))) != 45)) else (none)) else (none)) else (mapsheetsref12_read.j0 k a0 a1 a2 (wrap64 ((a0.size : Int) - 7)) true)) else (none)) else (none))))) = some (r1, r2, r3) := h
 clear h
 have HC4 := Aside0.mk H
 clear H
 go_enter Try.func25, Try.ntmps25
 go_upto_region 2 with (first | ((with_reducible refine gate_dst (N := 6) rfl ?_); refine box_event ?hg (N := 6) ?hd (cs := #[.int .i64 0, .bool false, .bool false]) (t := 44) ?hr ?_; (case hd => rfl); (case hg => rfl); (case hr => first | (go_simp; done) | (go_simp; rfl)); intro gb264 hg w5 hbox hb; have n0_ := Aside0.mk (below_step (by repeat (first | (with_reducible first | exact HB.out | apply ba | apply bn | apply bd) | exact HB.out)) hb); have n1_ := Aside0.mk (hbox); have n2_ := Aside0.mk ((by rw [hg]; exact (below_size (by repeat (first | (with_reducible first | exact HB.out | apply ba | apply bn | apply bd) | exact HB.out))) : w.heap.size ≤ gb264)); have n3_ := Aside0.mk ((by rw [hg]; exact (below_size (by repeat (first | (with_reducible first | exact HB.out | apply ba | apply bn | apply bd) | exact HB.out))) : w.heap.size ≤ gb264)); clear HB; have HB := n0_; have BK264 := n1_; have GW264 := n2_; have GE264 := n3_; clear n0_ n1_ n2_ n3_; clear hb hbox hg))
 (try simp only [Act.put, s1, s2, s3])
 go_cut [46] (fun v46 wc => ∃ (kq : Nat) (x46_3 : Bool), v46 = .bool x46_3 ∧ Aside0 (mapsheetsref12_read.j0 kq a0 a1 a2 (wrap64 ((a0.size : Int) - 7)) x46_3 = some (r1, r2, r3)) ∧ Aside0 (kq ≤ k) ∧ Aside0 (wc.heap[gb264]? = some (.cells #[.int .i64 0, .bool false, .bool false] 44 (0, 0))) ∧ Aside0 (Below w.heap.size w wc))
 case first =>
  have H := HC4.out
  clear HC4
  by_cases c6 : (wrap64 ((a0.size : Int) - 7)) < 1
  ·rw [if_pos c6] at H
   have c6b0 : decide ((wrap64 ((a0.size : Int) - 7)) < 1) = true := decide_eq_true c6
   clear c6
   (first | rw [c6b0] | (simp only [i64_w, i32_w]; rw [c6b0]) | skip)
   have H' := Aside0.mk H
   clear H
   go_wp2
   go_meet
   case rel => exact ⟨_, (true), (by first | rfl | (simp; done) | (simp [*]; done)), H', ⟨by first | omega | exact Nat.le_refl _⟩, ⟨by (with_reducible repeat (first | refine n_ ?_ _ | refine d_ ?_ | refine a_ ?_ _)); exact BK264.out⟩, ⟨by repeat (first | (with_reducible first | exact HB.out | apply ba | apply bn | apply bd | refine bs ?_ GE264.out) | exact HB.out)⟩⟩
  ·rw [if_neg c6] at H
   have c6b0 : decide ((wrap64 ((a0.size : Int) - 7)) < 1) = false := decide_eq_false c6
   clear c6
   (first | rw [c6b0] | (simp only [i64_w, i32_w]; rw [c6b0]) | skip)
   by_cases c7 : (wrap64 ((a0.size : Int) - 7)) > 3
   ·rw [if_pos c7] at H
    have c7b0 : decide (3 < (wrap64 ((a0.size : Int) - 7))) = true := decide_eq_true c7
    clear c7
    have H' := Aside0.mk H
    clear H
    go_wp2
    go_meet
    case rel => exact ⟨_, (true), (by first | rfl | (simp; done) | (simp [*]; done)), H', ⟨by first | omega | exact Nat.le_refl _⟩, ⟨by (with_reducible repeat (first | refine n_ ?_ _ | refine d_ ?_ | refine a_ ?_ _)); exact BK264.out⟩, ⟨by repeat (first | (with_reducible first | exact HB.out | apply ba | apply bn | apply bd | refine bs ?_ GE264.out) | exact HB.out)⟩⟩
   ·rw [if_neg c7] at H
    have c7b0 : decide (3 < (wrap64 ((a0.size : Int) - 7))) = false := decide_eq_false c7
    clear c7
    by_cases c8 : (wrap64 ((a0.size : Int) - 7)) > 1
    ·rw [if_pos c8] at H
     have c8b0 : decide (1 < (wrap64 ((a0.size : Int) - 7))) = true := decide_eq_true c8
     clear c8
     by_cases c9 : 0 < (a0.size : Int)
     ·rw [if_pos c9] at H
      have c9b0 : decide (0 < (a0.size : Int)) = true := decide_eq_true c9
      have c9b1 : decide (0 < a0.size) = true := decide_eq_true (by omega)
      clear c9
      by_cases c11 : (bt a0 0) = 48
      ·rw [if_pos c11] at H
       have c11b0 : ((bt a0 0) == 48) = true := beq_iff_eq.mpr c11
       have c11b1 : ((bt a0 0) != 48) = false := bne_eq_false_iff_eq.mpr c11
       clear c11
       have H' := Aside0.mk H
       clear H
       have p10 : 0 ≤ (0 : Int) := (by omega)
       have q10 : 0 < a0.size := (by have : (0 : Int) < (a0.size : Int) := of_decide_eq_true (by first | (with_reducible assumption) | assumption); omega)
       have hx10 : ∀ h : 0 < a0.size, ((a0[0]'h).toNat : Int) = bt a0 0 := bt_at a0 0
       clear p10
       have qi10 : (0 < (a0.size : Int)) = True := eq_true (of_decide_eq_true (by first | (with_reducible assumption) | assumption))
       replace q10 := eq_true q10
       go_wp2
       go_meet
       case rel => exact ⟨_, (true), (by first | rfl | (simp; done) | (simp [*]; done)), H', ⟨by first | omega | exact Nat.le_refl _⟩, ⟨by (with_reducible repeat (first | refine n_ ?_ _ | refine d_ ?_ | refine a_ ?_ _)); exact BK264.out⟩, ⟨by repeat (first | (with_reducible first | exact HB.out | apply ba | apply bn | apply bd | refine bs ?_ GE264.out) | exact HB.out)⟩⟩
      ·rw [if_neg c11] at H
       have c11b0 : ((bt a0 0) == 48) = false := beq_eq_false_iff_ne.mpr c11
       have c11b1 : ((bt a0 0) != 48) = true := bne_iff_ne.mpr c11
       obtain ⟨ji12, hji12⟩ : ∃ j_ : Int, (wrap64 ((a0.size : Int) - 7)) = j_ := ⟨_, rfl⟩
       replace H : (if 0 ≤ (ji12) then (if (ji12) < (a0.size : Int) then (if (bt a0 (ji12)) = 45 then (if 0 ≤ (wrap64 ((ji12) + 3)) then (if (wrap64 ((ji12) + 3)) < (a0.size : Int) then (mapsheetsref12_read.j0 k a0 a1 a2 ji12 ((bt a0 (wrap64 ((ji12) + 3))) != 45)) else (none)) else (none)) else (mapsheetsref12_read.j0 k a0 a1 a2 ji12 true)) else (none)) else (none)) = some (r1, r2, r3) := by first | (rw [hji12] at H; exact H) | (simp only [hji12] at H ⊢; exact H)
       (try rw [hji12] at c6b0)
       (try rw [hji12] at c7b0)
       (try rw [hji12] at c8b0)
       have hji12w : (IntKind.i64.wrap ((a0.size : Int) - 7)) = ji12 := (i64_w _).trans hji12
       by_cases c13 : 0 ≤ (ji12)
       ·rw [if_pos c13] at H
        have c13b0 : decide (0 ≤ (ji12)) = true := decide_eq_true c13
        clear c13
        by_cases c14 : (ji12) < (a0.size : Int)
        ·rw [if_pos c14] at H
         have c14b0 : decide ((ji12) < (a0.size : Int)) = true := decide_eq_true c14
         clear c14
         by_cases c16 : (bt a0 (ji12)) = 45
         ·rw [if_pos c16] at H
          have c16b0 : ((bt a0 (ji12)) == 45) = true := beq_iff_eq.mpr c16
          have c16b1 : ((bt a0 (ji12)) != 45) = false := bne_eq_false_iff_eq.mpr c16
          clear c16
          obtain ⟨ji17, hji17⟩ : ∃ j_ : Int, (wrap64 ((ji12) + 3)) = j_ := ⟨_, rfl⟩
          replace H : (if 0 ≤ (ji17) then (if (ji17) < (a0.size : Int) then (mapsheetsref12_read.j0 k a0 a1 a2 ji12 ((bt a0 (ji17)) != 45)) else (none)) else (none)) = some (r1, r2, r3) := by first | (rw [hji17] at H; exact H) | (simp only [hji17] at H ⊢; exact H)
          have hji17w : (IntKind.i64.wrap ((ji12) + 3)) = ji17 := (i64_w _).trans hji17
          by_cases c18 : 0 ≤ (ji17)
          ·rw [if_pos c18] at H
           have c18b0 : decide (0 ≤ (ji17)) = true := decide_eq_true c18
           clear c18
           by_cases c19 : (ji17) < (a0.size : Int)
           ·rw [if_pos c19] at H
            have c19b0 : decide ((ji17) < (a0.size : Int)) = true := decide_eq_true c19
            clear c19
            have H' := Aside0.mk H
            clear H
            have p10 : 0 ≤ (0 : Int) := (by omega)
            have q10 : 0 < a0.size := (by have : (0 : Int) < (a0.size : Int) := of_decide_eq_true (by first | (with_reducible assumption) | assumption); omega)
            have hx10 : ∀ h : 0 < a0.size, ((a0[0]'h).toNat : Int) = bt a0 0 := bt_at a0 0
            clear p10
            have qi10 : (0 < (a0.size : Int)) = True := eq_true (of_decide_eq_true (by first | (with_reducible assumption) | assumption))
            replace q10 := eq_true q10
            have p15 : 0 ≤ ((ji12) : Int) := of_decide_eq_true (by first | (with_reducible assumption) | assumption)
            have q15 : (ji12) < (a0.size : Int) := of_decide_eq_true (by first | (with_reducible assumption) | assumption)
            have hx15 := bt_at a0 (ji12)
            replace p15 := eq_true p15
            replace q15 := eq_true q15
            have p20 : 0 ≤ ((ji17) : Int) := of_decide_eq_true (by first | (with_reducible assumption) | assumption)
            have q20 : (ji17) < (a0.size : Int) := of_decide_eq_true (by first | (with_reducible assumption) | assumption)
            have hx20 := bt_at a0 (ji17)
            replace p20 := eq_true p20
            replace q20 := eq_true q20
            go_wp2
            go_meet
            case rel => exact ⟨_, (((bt a0 (ji17)) != 45)), (by first | rfl | (simp; done) | (simp only [← hji17] <;> (first | rfl | simp)) | (simp [*]; done)), (by first | exact H' | (rw [← hji17] at H'; exact H') | (rw [← hji12] at H'; exact H')), ⟨by first | omega | exact Nat.le_refl _⟩, ⟨by (with_reducible repeat (first | refine n_ ?_ _ | refine d_ ?_ | refine a_ ?_ _)); exact BK264.out⟩, ⟨by repeat (first | (with_reducible first | exact HB.out | apply ba | apply bn | apply bd | refine bs ?_ GE264.out) | exact HB.out)⟩⟩
           ·rw [if_neg c19] at H
            exact absurd H (by simp)
          ·rw [if_neg c18] at H
           exact absurd H (by simp)
         ·rw [if_neg c16] at H
          have c16b0 : ((bt a0 (ji12)) == 45) = false := beq_eq_false_iff_ne.mpr c16
          have c16b1 : ((bt a0 (ji12)) != 45) = true := bne_iff_ne.mpr c16
          have H' := Aside0.mk H
          clear H
          have p10 : 0 ≤ (0 : Int) := (by omega)
          have q10 : 0 < a0.size := (by have : (0 : Int) < (a0.size : Int) := of_decide_eq_true (by first | (with_reducible assumption) | assumption); omega)
          have hx10 : ∀ h : 0 < a0.size, ((a0[0]'h).toNat : Int) = bt a0 0 := bt_at a0 0
          clear p10
          have qi10 : (0 < (a0.size : Int)) = True := eq_true (of_decide_eq_true (by first | (with_reducible assumption) | assumption))
          replace q10 := eq_true q10
          have p15 : 0 ≤ ((ji12) : Int) := of_decide_eq_true (by first | (with_reducible assumption) | assumption)
          have q15 : (ji12) < (a0.size : Int) := of_decide_eq_true (by first | (with_reducible assumption) | assumption)
          have hx15 := bt_at a0 (ji12)
          replace p15 := eq_true p15
          replace q15 := eq_true q15
          go_wp2
          go_meet
          case rel => exact ⟨_, (true), (by first | rfl | (simp; done) | (simp [*]; done)), (by first | exact H' | (rw [← hji17] at H'; exact H') | (rw [← hji12] at H'; exact H')), ⟨by first | omega | exact Nat.le_refl _⟩, ⟨by (with_reducible repeat (first | refine n_ ?_ _ | refine d_ ?_ | refine a_ ?_ _)); exact BK264.out⟩, ⟨by repeat (first | (with_reducible first | exact HB.out | apply ba | apply bn | apply bd | refine bs ?_ GE264.out) | exact HB.out)⟩⟩
        ·rw [if_neg c14] at H
         exact absurd H (by simp)
       ·rw [if_neg c13] at H
        exact absurd H (by simp)
     ·rw [if_neg c9] at H
      exact absurd H (by simp)
    ·rw [if_neg c8] at H
     have c8b0 : decide (1 < (wrap64 ((a0.size : Int) - 7))) = false := decide_eq_false c8
     clear c8
     obtain ⟨ji21, hji21⟩ : ∃ j_ : Int, (wrap64 ((a0.size : Int) - 7)) = j_ := ⟨_, rfl⟩
     replace H : (if 0 ≤ (ji21) then (if (ji21) < (a0.size : Int) then (if (bt a0 (ji21)) = 45 then (if 0 ≤ (wrap64 ((ji21) + 3)) then (if (wrap64 ((ji21) + 3)) < (a0.size : Int) then (mapsheetsref12_read.j0 k a0 a1 a2 ji21 ((bt a0 (wrap64 ((ji21) + 3))) != 45)) else (none)) else (none)) else (mapsheetsref12_read.j0 k a0 a1 a2 ji21 true)) else (none)) else (none)) = some (r1, r2, r3) := by first | (rw [hji21] at H; exact H) | (simp only [hji21] at H ⊢; exact H)
     (try rw [hji21] at c6b0)
     (try rw [hji21] at c7b0)
     (try rw [hji21] at c8b0)
     have hji21w : (IntKind.i64.wrap ((a0.size : Int) - 7)) = ji21 := (i64_w _).trans hji21
     by_cases c22 : 0 ≤ (ji21)
     ·rw [if_pos c22] at H
      have c22b0 : decide (0 ≤ (ji21)) = true := decide_eq_true c22
      clear c22
      by_cases c23 : (ji21) < (a0.size : Int)
      ·rw [if_pos c23] at H
       have c23b0 : decide ((ji21) < (a0.size : Int)) = true := decide_eq_true c23
       clear c23
       by_cases c25 : (bt a0 (ji21)) = 45
       ·rw [if_pos c25] at H
        have c25b0 : ((bt a0 (ji21)) == 45) = true := beq_iff_eq.mpr c25
        have c25b1 : ((bt a0 (ji21)) != 45) = false := bne_eq_false_iff_eq.mpr c25
        clear c25
        obtain ⟨ji26, hji26⟩ : ∃ j_ : Int, (wrap64 ((ji21) + 3)) = j_ := ⟨_, rfl⟩
        replace H : (if 0 ≤ (ji26) then (if (ji26) < (a0.size : Int) then (mapsheetsref12_read.j0 k a0 a1 a2 ji21 ((bt a0 (ji26)) != 45)) else (none)) else (none)) = some (r1, r2, r3) := by first | (rw [hji26] at H; exact H) | (simp only [hji26] at H ⊢; exact H)
        have hji26w : (IntKind.i64.wrap ((ji21) + 3)) = ji26 := (i64_w _).trans hji26
        by_cases c27 : 0 ≤ (ji26)
        ·rw [if_pos c27] at H
         have c27b0 : decide (0 ≤ (ji26)) = true := decide_eq_true c27
         clear c27
         by_cases c28 : (ji26) < (a0.size : Int)
         ·rw [if_pos c28] at H
          have c28b0 : decide ((ji26) < (a0.size : Int)) = true := decide_eq_true c28
          clear c28
          have H' := Aside0.mk H
          clear H
          have p24 : 0 ≤ ((ji21) : Int) := of_decide_eq_true (by first | (with_reducible assumption) | assumption)
          have q24 : (ji21) < (a0.size : Int) := of_decide_eq_true (by first | (with_reducible assumption) | assumption)
          have hx24 := bt_at a0 (ji21)
          replace p24 := eq_true p24
          replace q24 := eq_true q24
          have p29 : 0 ≤ ((ji26) : Int) := of_decide_eq_true (by first | (with_reducible assumption) | assumption)
          have q29 : (ji26) < (a0.size : Int) := of_decide_eq_true (by first | (with_reducible assumption) | assumption)
          have hx29 := bt_at a0 (ji26)
          replace p29 := eq_true p29
          replace q29 := eq_true q29
          go_wp2
          go_meet
          case rel => exact ⟨_, (((bt a0 (ji26)) != 45)), (by first | rfl | (simp; done) | (simp only [← hji26] <;> (first | rfl | simp)) | (simp [*]; done)), (by first | exact H' | (rw [← hji26] at H'; exact H') | (rw [← hji21] at H'; exact H') | (rw [← hji17] at H'; exact H') | (rw [← hji12] at H'; exact H')), ⟨by first | omega | exact Nat.le_refl _⟩, ⟨by (with_reducible repeat (first | refine n_ ?_ _ | refine d_ ?_ | refine a_ ?_ _)); exact BK264.out⟩, ⟨by repeat (first | (with_reducible first | exact HB.out | apply ba | apply bn | apply bd | refine bs ?_ GE264.out) | exact HB.out)⟩⟩
         ·rw [if_neg c28] at H
          exact absurd H (by simp)
        ·rw [if_neg c27] at H
         exact absurd H (by simp)
       ·rw [if_neg c25] at H
        have c25b0 : ((bt a0 (ji21)) == 45) = false := beq_eq_false_iff_ne.mpr c25
        have c25b1 : ((bt a0 (ji21)) != 45) = true := bne_iff_ne.mpr c25
        have H' := Aside0.mk H
        clear H
        have p24 : 0 ≤ ((ji21) : Int) := of_decide_eq_true (by first | (with_reducible assumption) | assumption)
        have q24 : (ji21) < (a0.size : Int) := of_decide_eq_true (by first | (with_reducible assumption) | assumption)
        have hx24 := bt_at a0 (ji21)
        replace p24 := eq_true p24
        replace q24 := eq_true q24
        go_wp2
        go_meet
        case rel => exact ⟨_, (true), (by first | rfl | (simp; done) | (simp [*]; done)), (by first | exact H' | (rw [← hji26] at H'; exact H') | (rw [← hji21] at H'; exact H') | (rw [← hji17] at H'; exact H') | (rw [← hji12] at H'; exact H')), ⟨by first | omega | exact Nat.le_refl _⟩, ⟨by (with_reducible repeat (first | refine n_ ?_ _ | refine d_ ?_ | refine a_ ?_ _)); exact BK264.out⟩, ⟨by repeat (first | (with_reducible first | exact HB.out | apply ba | apply bn | apply bd | refine bs ?_ GE264.out) | exact HB.out)⟩⟩
      ·rw [if_neg c23] at H
       exact absurd H (by simp)
     ·rw [if_neg c22] at H
      exact absurd H (by simp)
 case rest =>
  clear HC4
  try clear c1
  try clear p1
  try clear q1
  try clear hx1
  try clear qi1
  try clear c2
  try clear p2
  try clear q2
  try clear hx2
  try clear c6
  try clear c6b0
  try clear p6
  try clear c7
  try clear c7b0
  try clear c8
  try clear c8b0
  try clear c9
  try clear c9b0
  try clear c9b1
  try clear p10
  try clear q10
  try clear hx10
  try clear qi10
  try clear c11
  try clear c11b0
  try clear c11b1
  try clear c13
  try clear c13b0
  try clear c14
  try clear c14b0
  try clear p15
  try clear q15
  try clear hx15
  try clear c16
  try clear c16b0
  try clear c16b1
  try clear c18
  try clear c18b0
  try clear c19
  try clear c19b0
  try clear p20
  try clear q20
  try clear hx20
  try clear c22
  try clear c22b0
  try clear c23
  try clear c23b0
  try clear p24
  try clear q24
  try clear hx24
  try clear c25
  try clear c25b0
  try clear c25b1
  try clear c27
  try clear c27b0
  try clear c28
  try clear c28b0
  try clear p29
  try clear q29
  try clear hx29
  try clear p10
  try clear p15
  try clear p20
  try clear p24
  try clear p29
  try clear q10
  try clear q15
  try clear q20
  try clear q24
  try clear q29
  obtain ⟨kq, x46_3, rfl, HA, HJ3, BK264, HB⟩ := hcut
  cases kq with
  | zero => exact absurd HA.out (by simp [mapsheetsref12_read.j0])
  | succ kj3 =>
   have H := HA.out
   clear HA
   simp only [mapsheetsref12_read.j0] at H
   by_cases c30 : x46_3 = true
   ·subst c30
    have H1 : (some (0, false, false)) = some (r1, r2, r3) := by rw [if_pos rfl] at H; exact H
    clear H
    have H := H1
    clear H1
    simp only [Option.some.injEq, Prod.mk.injEq] at H
    obtain ⟨rfl, rfl, rfl⟩ := H
    have hcz31_0 : wc.cell? ⟨gb264, 0, none⟩ = some (.int .i64 0) := (blk_cell BK264.out 0).trans rfl
    have hcz31_1 : wc.cell? ⟨gb264, 1, none⟩ = some (.bool false) := (blk_cell BK264.out 1).trans rfl
    have hcz31_2 : wc.cell? ⟨gb264, 2, none⟩ = some (.bool false) := (blk_cell BK264.out 2).trans rfl
    have hfz31_0 := blk_frozen BK264.out 0
    have hfz31_1 := blk_frozen BK264.out 1
    have hfz31_2 := blk_frozen BK264.out 2
    go_wp2
    refine bodyPost_ret (results_cell_row rfl _ _ gb264 44 #[.int .i64 0, .bool false, .bool false] (0, 0) _ rfl (by (with_reducible repeat (first | refine n_ ?_ _ | refine d_ ?_ | refine a_ ?_ _)); refine blk_put (cs := #[.int .i64 0, .bool false, .bool false]) ?_ 2 _ rfl; (with_reducible repeat (first | refine n_ ?_ _ | refine d_ ?_ | refine a_ ?_ _)); refine blk_put (cs := #[.int .i64 0, .bool false, .bool false]) ?_ 1 _ rfl; (with_reducible repeat (first | refine n_ ?_ _ | refine d_ ?_ | refine a_ ?_ _)); refine blk_put (cs := #[.int .i64 0, .bool false, .bool false]) ?_ 0 _ rfl; (with_reducible repeat (first | refine n_ ?_ _ | refine d_ ?_ | refine a_ ?_ _)); exact BK264.out) Try.underlying44 rfl (by kernel_rfl)) rfl ?_
    exact ⟨by first | rfl | (simp [errW_none, errW_some] <;> rfl) | (simp [*, errW_none, errW_some] <;> rfl), by repeat (first | (with_reducible first | exact HB.out | apply ba | apply bn | apply bd | refine bs ?_ GE264.out) | exact HB.out)⟩
   ·replace c30 := Bool.eq_false_iff.mpr c30
    subst c30
    have H1 : (if 0 ≤ (wrap64 ((a0.size : Int) - 7)) then (if (wrap64 ((a0.size : Int) - 7)) ≤ (a0.size : Int) then ((mapsheetsref12_digits.f kj3 (a0.extract 0 ((wrap64 ((a0.size : Int) - 7)) : Int).toNat)).bind fun bt265 => (if 0 ≤ (wrap64 ((wrap64 ((a0.size : Int) - 7)) + 1)) then (if (wrap64 ((wrap64 ((a0.size : Int) - 7)) + 1)) ≤ (wrap64 ((wrap64 ((a0.size : Int) - 7)) + 3)) then (if (wrap64 ((wrap64 ((a0.size : Int) - 7)) + 3)) ≤ (a0.size : Int) then ((mapsheetsref12_digits.f kj3 (a0.extract ((wrap64 ((wrap64 ((a0.size : Int) - 7)) + 1)) : Int).toNat ((wrap64 ((wrap64 ((a0.size : Int) - 7)) + 3)) : Int).toNat)).bind fun bt267 => (if 0 ≤ (wrap64 ((wrap64 ((a0.size : Int) - 7)) + 4)) then (if (wrap64 ((wrap64 ((a0.size : Int) - 7)) + 4)) ≤ (wrap64 ((wrap64 ((a0.size : Int) - 7)) + 6)) then (if (wrap64 ((wrap64 ((a0.size : Int) - 7)) + 6)) ≤ (a0.size : Int) then ((mapsheetsref12_digits.f kj3 (a0.extract ((wrap64 ((wrap64 ((a0.size : Int) - 7)) + 4)) : Int).toNat ((wrap64 ((wrap64 ((a0.size : Int) - 7)) + 6)) : Int).toNat)).bind fun bt269 => (if 0 ≤ (wrap64 ((wrap64 ((a0.size : Int) - 7)) + 6)) then (if (wrap64 ((wrap64 ((a0.size : Int) - 7)) + 6)) < (a0.size : Int) then (if bt265.2 = true then (if bt267.2 = true then (if bt269.2 = true then (if (bt a0 (wrap64 ((wrap64 ((a0.size : Int) - 7)) + 6))) = a1 then (if (bt a0 (wrap64 ((wrap64 ((a0.size : Int) - 7)) + 6))) = a2 then (if bt265.1 = 0 then (if bt267.1 = 0 then (mapsheetsref12_read.j1 kj3 a2 bt267.1 bt269.1 (bt a0 (wrap64 ((wrap64 ((a0.size : Int) - 7)) + 6))) (wrap64 ((wrap64 ((wrap64 (bt265.1 * 3600)) + (wrap64 (bt267.1 * 60)))) + bt269.1)) (bt269.1 == 0)) else (mapsheetsref12_read.j1 kj3 a2 bt267.1 bt269.1 (bt a0 (wrap64 ((wrap64 ((a0.size : Int) - 7)) + 6))) (wrap64 ((wrap64 ((wrap64 (bt265.1 * 3600)) + (wrap64 (bt267.1 * 60)))) + bt269.1)) false)) else (mapsheetsref12_read.j1 kj3 a2 bt267.1 bt269.1 (bt a0 (wrap64 ((wrap64 ((a0.size : Int) - 7)) + 6))) (wrap64 ((wrap64 ((wrap64 (bt265.1 * 3600)) + (wrap64 (bt267.1 * 60)))) + bt269.1)) false)) else (mapsheetsref12_read.j1 kj3 a2 bt267.1 bt269.1 (bt a0 (wrap64 ((wrap64 ((a0.size : Int) - 7)) + 6))) (wrap64 ((wrap64 ((wrap64 (bt265.1 * 3600)) + (wrap64 (bt267.1 * 60)))) + bt269.1)) false)) else (if (bt a0 (wrap64 ((wrap64 ((a0.size : Int) - 7)) + 6))) = a2 then (if bt265.1 = 0 then (if bt267.1 = 0 then (mapsheetsref12_read.j1 kj3 a2 bt267.1 bt269.1 (bt a0 (wrap64 ((wrap64 ((a0.size : Int) - 7)) + 6))) (wrap64 ((wrap64 ((wrap64 (bt265.1 * 3600)) + (wrap64 (bt267.1 * 60)))) + bt269.1)) (bt269.1 == 0)) else (mapsheetsref12_read.j1 kj3 a2 bt267.1 bt269.1 (bt a0 (wrap64 ((wrap64 ((a0.size : Int) - 7)) + 6))) (wrap64 ((wrap64 ((wrap64 (bt265.1 * 3600)) + (wrap64 (bt267.1 * 60)))) + bt269.1)) false)) else (mapsheetsref12_read.j1 kj3 a2 bt267.1 bt269.1 (bt a0 (wrap64 ((wrap64 ((a0.size : Int) - 7)) + 6))) (wrap64 ((wrap64 ((wrap64 (bt265.1 * 3600)) + (wrap64 (bt267.1 * 60)))) + bt269.1)) false)) else (mapsheetsref12_read.j1 kj3 a2 bt267.1 bt269.1 (bt a0 (wrap64 ((wrap64 ((a0.size : Int) - 7)) + 6))) (wrap64 ((wrap64 ((wrap64 (bt265.1 * 3600)) + (wrap64 (bt267.1 * 60)))) + bt269.1)) true))) else (mapsheetsref12_read.j1 kj3 a2 bt267.1 bt269.1 (bt a0 (wrap64 ((wrap64 ((a0.size : Int) - 7)) + 6))) (wrap64 ((wrap64 ((wrap64 (bt265.1 * 3600)) + (wrap64 (bt267.1 * 60)))) + bt269.1)) true)) else (mapsheetsref12_read.j1 kj3 a2 bt267.1 bt269.1 (bt a0 (wrap64 ((wrap64 ((a0.size : Int) - 7)) + 6))) (wrap64 ((wrap64 ((wrap64 (bt265.1 * 3600)) + (wrap64 (bt267.1 * 60)))) + bt269.1)) true)) else (mapsheetsref12_read.j1 kj3 a2 bt267.1 bt269.1 (bt a0 (wrap64 ((wrap64 ((a0.size : Int) - 7)) + 6))) (wrap64 ((wrap64 ((wrap64 (bt265.1 * 3600)) + (wrap64 (bt267.1 * 60)))) + bt269.1)) true)) else (none)) else (none))) else (none)) else (none)) else (none))) else (none)) else (none)) else (none))) else (none)) else (none)) = some (r1, r2, r3) := by rw [if_neg (show ¬ (false = true) by decide)] at H; exact H
    clear H
    have H := H1
    clear H1
    obtain ⟨ji32, hji32⟩ : ∃ j_ : Int, (wrap64 ((a0.size : Int) - 7)) = j_ := ⟨_, rfl⟩
    replace H : (if 0 ≤ (ji32) then (if (ji32) ≤ (a0.size : Int) then ((mapsheetsref12_digits.f kj3 (a0.extract 0 ((ji32) : Int).toNat)).bind fun bt265 => (if 0 ≤ (wrap64 ((ji32) + 1)) then (if (wrap64 ((ji32) + 1)) ≤ (wrap64 ((ji32) + 3)) then (if (wrap64 ((ji32) + 3)) ≤ (a0.size : Int) then ((mapsheetsref12_digits.f kj3 (a0.extract ((wrap64 ((ji32) + 1)) : Int).toNat ((wrap64 ((ji32) + 3)) : Int).toNat)).bind fun bt267 => (if 0 ≤ (wrap64 ((ji32) + 4)) then (if (wrap64 ((ji32) + 4)) ≤ (wrap64 ((ji32) + 6)) then (if (wrap64 ((ji32) + 6)) ≤ (a0.size : Int) then ((mapsheetsref12_digits.f kj3 (a0.extract ((wrap64 ((ji32) + 4)) : Int).toNat ((wrap64 ((ji32) + 6)) : Int).toNat)).bind fun bt269 => (if 0 ≤ (wrap64 ((ji32) + 6)) then (if (wrap64 ((ji32) + 6)) < (a0.size : Int) then (if bt265.2 = true then (if bt267.2 = true then (if bt269.2 = true then (if (bt a0 (wrap64 ((ji32) + 6))) = a1 then (if (bt a0 (wrap64 ((ji32) + 6))) = a2 then (if bt265.1 = 0 then (if bt267.1 = 0 then (mapsheetsref12_read.j1 kj3 a2 bt267.1 bt269.1 (bt a0 (wrap64 ((ji32) + 6))) (wrap64 ((wrap64 ((wrap64 (bt265.1 * 3600)) + (wrap64 (bt267.1 * 60)))) + bt269.1)) (bt269.1 == 0)) else (mapsheetsref12_read.j1 kj3 a2 bt267.1 bt269.1 (bt a0 (wrap64 ((ji32) + 6))) (wrap64 ((wrap64 ((wrap64 (bt265.1 * 3600)) + (wrap64 (bt267.1 * 60)))) + bt269.1)) false)) else (mapsheetsref12_read.j1 kj3 a2 bt267.1 bt269.1 (bt a0 (wrap64 ((ji32) + 6))) (wrap64 ((wrap64 ((wrap64 (bt265.1 * 3600)) + (wrap64 (bt267.1 * 60)))) + bt269.1)) false)) else (mapsheetsref12_read.j1 kj3 a2 bt267.1 bt269.1 (bt a0 (wrap64 ((ji32) + 6))) (wrap64 ((wrap64 ((wrap64 (bt265.1 * 3600)) + (wrap64 (bt267.1 * 60)))) + bt269.1)) false)) else (if (bt a0 (wrap64 ((ji32) + 6))) = a2 then (if bt265.1 = 0 then (if bt267.1 = 0 then (mapsheetsref12_read.j1 kj3 a2 bt267.1 bt269.1 (bt a0 (wrap64 ((ji32) + 6))) (wrap64 ((wrap64 ((wrap64 (bt265.1 * 3600)) + (wrap64 (bt267.1 * 60)))) + bt269.1)) (bt269.1 == 0)) else (mapsheetsref12_read.j1 kj3 a2 bt267.1 bt269.1 (bt a0 (wrap64 ((ji32) + 6))) (wrap64 ((wrap64 ((wrap64 (bt265.1 * 3600)) + (wrap64 (bt267.1 * 60)))) + bt269.1)) false)) else (mapsheetsref12_read.j1 kj3 a2 bt267.1 bt269.1 (bt a0 (wrap64 ((ji32) + 6))) (wrap64 ((wrap64 ((wrap64 (bt265.1 * 3600)) + (wrap64 (bt267.1 * 60)))) + bt269.1)) false)) else (mapsheetsref12_read.j1 kj3 a2 bt267.1 bt269.1 (bt a0 (wrap64 ((ji32) + 6))) (wrap64 ((wrap64 ((wrap64 (bt265.1 * 3600)) + (wrap64 (bt267.1 * 60)))) + bt269.1)) true))) else (mapsheetsref12_read.j1 kj3 a2 bt267.1 bt269.1 (bt a0 (wrap64 ((ji32) + 6))) (wrap64 ((wrap64 ((wrap64 (bt265.1 * 3600)) + (wrap64 (bt267.1 * 60)))) + bt269.1)) true)) else (mapsheetsref12_read.j1 kj3 a2 bt267.1 bt269.1 (bt a0 (wrap64 ((ji32) + 6))) (wrap64 ((wrap64 ((wrap64 (bt265.1 * 3600)) + (wrap64 (bt267.1 * 60)))) + bt269.1)) true)) else (mapsheetsref12_read.j1 kj3 a2 bt267.1 bt269.1 (bt a0 (wrap64 ((ji32) + 6))) (wrap64 ((wrap64 ((wrap64 (bt265.1 * 3600)) + (wrap64 (bt267.1 * 60)))) + bt269.1)) true)) else (none)) else (none))) else (none)) else (none)) else (none))) else (none)) else (none)) else (none))) else (none)) else (none)) = some (r1, r2, r3) := by first | (rw [hji32] at H; exact H) | (simp only [hji32] at H ⊢; exact H)
    have hji32w : (IntKind.i64.wrap ((a0.size : Int) - 7)) = ji32 := (i64_w _).trans hji32
    by_cases c33 : 0 ≤ (ji32)
    ·rw [if_pos c33] at H
     have c33b0 := eq_true c33
     have c33b1 : decide (0 ≤ (ji32)) = true := decide_eq_true c33
     clear c33
     by_cases c34 : (ji32) ≤ (a0.size : Int)
     ·rw [if_pos c34] at H
      have c34b0 := eq_true c34
      have c34b1 : decide ((ji32) ≤ (a0.size : Int)) = true := decide_eq_true c34
      clear c34
      replace H := Option.bind_eq_some_iff.mp H
      obtain ⟨⟨t265, t266⟩, A350, H⟩ := H
      replace H : (if 0 ≤ (wrap64 ((ji32) + 1)) then (if (wrap64 ((ji32) + 1)) ≤ (wrap64 ((ji32) + 3)) then (if (wrap64 ((ji32) + 3)) ≤ (a0.size : Int) then ((mapsheetsref12_digits.f kj3 (a0.extract ((wrap64 ((ji32) + 1)) : Int).toNat ((wrap64 ((ji32) + 3)) : Int).toNat)).bind fun bt267 => (if 0 ≤ (wrap64 ((ji32) + 4)) then (if (wrap64 ((ji32) + 4)) ≤ (wrap64 ((ji32) + 6)) then (if (wrap64 ((ji32) + 6)) ≤ (a0.size : Int) then ((mapsheetsref12_digits.f kj3 (a0.extract ((wrap64 ((ji32) + 4)) : Int).toNat ((wrap64 ((ji32) + 6)) : Int).toNat)).bind fun bt269 => (if 0 ≤ (wrap64 ((ji32) + 6)) then (if (wrap64 ((ji32) + 6)) < (a0.size : Int) then (if t266 = true then (if bt267.2 = true then (if bt269.2 = true then (if (bt a0 (wrap64 ((ji32) + 6))) = a1 then (if (bt a0 (wrap64 ((ji32) + 6))) = a2 then (if t265 = 0 then (if bt267.1 = 0 then (mapsheetsref12_read.j1 kj3 a2 bt267.1 bt269.1 (bt a0 (wrap64 ((ji32) + 6))) (wrap64 ((wrap64 ((wrap64 (t265 * 3600)) + (wrap64 (bt267.1 * 60)))) + bt269.1)) (bt269.1 == 0)) else (mapsheetsref12_read.j1 kj3 a2 bt267.1 bt269.1 (bt a0 (wrap64 ((ji32) + 6))) (wrap64 ((wrap64 ((wrap64 (t265 * 3600)) + (wrap64 (bt267.1 * 60)))) + bt269.1)) false)) else (mapsheetsref12_read.j1 kj3 a2 bt267.1 bt269.1 (bt a0 (wrap64 ((ji32) + 6))) (wrap64 ((wrap64 ((wrap64 (t265 * 3600)) + (wrap64 (bt267.1 * 60)))) + bt269.1)) false)) else (mapsheetsref12_read.j1 kj3 a2 bt267.1 bt269.1 (bt a0 (wrap64 ((ji32) + 6))) (wrap64 ((wrap64 ((wrap64 (t265 * 3600)) + (wrap64 (bt267.1 * 60)))) + bt269.1)) false)) else (if (bt a0 (wrap64 ((ji32) + 6))) = a2 then (if t265 = 0 then (if bt267.1 = 0 then (mapsheetsref12_read.j1 kj3 a2 bt267.1 bt269.1 (bt a0 (wrap64 ((ji32) + 6))) (wrap64 ((wrap64 ((wrap64 (t265 * 3600)) + (wrap64 (bt267.1 * 60)))) + bt269.1)) (bt269.1 == 0)) else (mapsheetsref12_read.j1 kj3 a2 bt267.1 bt269.1 (bt a0 (wrap64 ((ji32) + 6))) (wrap64 ((wrap64 ((wrap64 (t265 * 3600)) + (wrap64 (bt267.1 * 60)))) + bt269.1)) false)) else (mapsheetsref12_read.j1 kj3 a2 bt267.1 bt269.1 (bt a0 (wrap64 ((ji32) + 6))) (wrap64 ((wrap64 ((wrap64 (t265 * 3600)) + (wrap64 (bt267.1 * 60)))) + bt269.1)) false)) else (mapsheetsref12_read.j1 kj3 a2 bt267.1 bt269.1 (bt a0 (wrap64 ((ji32) + 6))) (wrap64 ((wrap64 ((wrap64 (t265 * 3600)) + (wrap64 (bt267.1 * 60)))) + bt269.1)) true))) else (mapsheetsref12_read.j1 kj3 a2 bt267.1 bt269.1 (bt a0 (wrap64 ((ji32) + 6))) (wrap64 ((wrap64 ((wrap64 (t265 * 3600)) + (wrap64 (bt267.1 * 60)))) + bt269.1)) true)) else (mapsheetsref12_read.j1 kj3 a2 bt267.1 bt269.1 (bt a0 (wrap64 ((ji32) + 6))) (wrap64 ((wrap64 ((wrap64 (t265 * 3600)) + (wrap64 (bt267.1 * 60)))) + bt269.1)) true)) else (mapsheetsref12_read.j1 kj3 a2 bt267.1 bt269.1 (bt a0 (wrap64 ((ji32) + 6))) (wrap64 ((wrap64 ((wrap64 (t265 * 3600)) + (wrap64 (bt267.1 * 60)))) + bt269.1)) true)) else (none)) else (none))) else (none)) else (none)) else (none))) else (none)) else (none)) else (none)) = some (r1, r2, r3) := H
      have A35 := Aside0.mk A350
      clear A350
      obtain ⟨ji36, hji36⟩ : ∃ j_ : Int, (wrap64 ((ji32) + 1)) = j_ := ⟨_, rfl⟩
      replace H : (if 0 ≤ (ji36) then (if (ji36) ≤ (wrap64 ((ji32) + 3)) then (if (wrap64 ((ji32) + 3)) ≤ (a0.size : Int) then ((mapsheetsref12_digits.f kj3 (a0.extract ((ji36) : Int).toNat ((wrap64 ((ji32) + 3)) : Int).toNat)).bind fun bt267 => (if 0 ≤ (wrap64 ((ji32) + 4)) then (if (wrap64 ((ji32) + 4)) ≤ (wrap64 ((ji32) + 6)) then (if (wrap64 ((ji32) + 6)) ≤ (a0.size : Int) then ((mapsheetsref12_digits.f kj3 (a0.extract ((wrap64 ((ji32) + 4)) : Int).toNat ((wrap64 ((ji32) + 6)) : Int).toNat)).bind fun bt269 => (if 0 ≤ (wrap64 ((ji32) + 6)) then (if (wrap64 ((ji32) + 6)) < (a0.size : Int) then (if t266 = true then (if bt267.2 = true then (if bt269.2 = true then (if (bt a0 (wrap64 ((ji32) + 6))) = a1 then (if (bt a0 (wrap64 ((ji32) + 6))) = a2 then (if t265 = 0 then (if bt267.1 = 0 then (mapsheetsref12_read.j1 kj3 a2 bt267.1 bt269.1 (bt a0 (wrap64 ((ji32) + 6))) (wrap64 ((wrap64 ((wrap64 (t265 * 3600)) + (wrap64 (bt267.1 * 60)))) + bt269.1)) (bt269.1 == 0)) else (mapsheetsref12_read.j1 kj3 a2 bt267.1 bt269.1 (bt a0 (wrap64 ((ji32) + 6))) (wrap64 ((wrap64 ((wrap64 (t265 * 3600)) + (wrap64 (bt267.1 * 60)))) + bt269.1)) false)) else (mapsheetsref12_read.j1 kj3 a2 bt267.1 bt269.1 (bt a0 (wrap64 ((ji32) + 6))) (wrap64 ((wrap64 ((wrap64 (t265 * 3600)) + (wrap64 (bt267.1 * 60)))) + bt269.1)) false)) else (mapsheetsref12_read.j1 kj3 a2 bt267.1 bt269.1 (bt a0 (wrap64 ((ji32) + 6))) (wrap64 ((wrap64 ((wrap64 (t265 * 3600)) + (wrap64 (bt267.1 * 60)))) + bt269.1)) false)) else (if (bt a0 (wrap64 ((ji32) + 6))) = a2 then (if t265 = 0 then (if bt267.1 = 0 then (mapsheetsref12_read.j1 kj3 a2 bt267.1 bt269.1 (bt a0 (wrap64 ((ji32) + 6))) (wrap64 ((wrap64 ((wrap64 (t265 * 3600)) + (wrap64 (bt267.1 * 60)))) + bt269.1)) (bt269.1 == 0)) else (mapsheetsref12_read.j1 kj3 a2 bt267.1 bt269.1 (bt a0 (wrap64 ((ji32) + 6))) (wrap64 ((wrap64 ((wrap64 (t265 * 3600)) + (wrap64 (bt267.1 * 60)))) + bt269.1)) false)) else (mapsheetsref12_read.j1 kj3 a2 bt267.1 bt269.1 (bt a0 (wrap64 ((ji32) + 6))) (wrap64 ((wrap64 ((wrap64 (t265 * 3600)) + (wrap64 (bt267.1 * 60)))) + bt269.1)) false)) else (mapsheetsref12_read.j1 kj3 a2 bt267.1 bt269.1 (bt a0 (wrap64 ((ji32) + 6))) (wrap64 ((wrap64 ((wrap64 (t265 * 3600)) + (wrap64 (bt267.1 * 60)))) + bt269.1)) true))) else (mapsheetsref12_read.j1 kj3 a2 bt267.1 bt269.1 (bt a0 (wrap64 ((ji32) + 6))) (wrap64 ((wrap64 ((wrap64 (t265 * 3600)) + (wrap64 (bt267.1 * 60)))) + bt269.1)) true)) else (mapsheetsref12_read.j1 kj3 a2 bt267.1 bt269.1 (bt a0 (wrap64 ((ji32) + 6))) (wrap64 ((wrap64 ((wrap64 (t265 * 3600)) + (wrap64 (bt267.1 * 60)))) + bt269.1)) true)) else (mapsheetsref12_read.j1 kj3 a2 bt267.1 bt269.1 (bt a0 (wrap64 ((ji32) + 6))) (wrap64 ((wrap64 ((wrap64 (t265 * 3600)) + (wrap64 (bt267.1 * 60)))) + bt269.1)) true)) else (none)) else (none))) else (none)) else (none)) else (none))) else (none)) else (none)) else (none)) = some (r1, r2, r3) := by first | (rw [hji36] at H; exact H) | (simp only [hji36] at H ⊢; exact H)
      (try rw [hji36] at A35)
      have hji36w : (IntKind.i64.wrap ((ji32) + 1)) = ji36 := (i64_w _).trans hji36
      by_cases c37 : 0 ≤ (ji36)
      ·rw [if_pos c37] at H
       have c37b0 := eq_true c37
       have c37b1 : decide (0 ≤ (ji36)) = true := decide_eq_true c37
       clear c37
       by_cases c38 : (ji36) ≤ (wrap64 ((ji32) + 3))
       ·rw [if_pos c38] at H
        have c38b0 := eq_true c38
        have c38b1 : decide ((ji36) ≤ (wrap64 ((ji32) + 3))) = true := decide_eq_true c38
        by_cases c39 : (wrap64 ((ji32) + 3)) ≤ (a0.size : Int)
        ·rw [if_pos c39] at H
         have c39b0 := eq_true c39
         have c39b1 : decide ((wrap64 ((ji32) + 3)) ≤ (a0.size : Int)) = true := decide_eq_true c39
         replace H := Option.bind_eq_some_iff.mp H
         obtain ⟨⟨t267, t268⟩, A400, H⟩ := H
         replace H : (if 0 ≤ (wrap64 ((ji32) + 4)) then (if (wrap64 ((ji32) + 4)) ≤ (wrap64 ((ji32) + 6)) then (if (wrap64 ((ji32) + 6)) ≤ (a0.size : Int) then ((mapsheetsref12_digits.f kj3 (a0.extract ((wrap64 ((ji32) + 4)) : Int).toNat ((wrap64 ((ji32) + 6)) : Int).toNat)).bind fun bt269 => (if 0 ≤ (wrap64 ((ji32) + 6)) then (if (wrap64 ((ji32) + 6)) < (a0.size : Int) then (if t266 = true then (if t268 = true then (if bt269.2 = true then (if (bt a0 (wrap64 ((ji32) + 6))) = a1 then (if (bt a0 (wrap64 ((ji32) + 6))) = a2 then (if t265 = 0 then (if t267 = 0 then (mapsheetsref12_read.j1 kj3 a2 t267 bt269.1 (bt a0 (wrap64 ((ji32) + 6))) (wrap64 ((wrap64 ((wrap64 (t265 * 3600)) + (wrap64 (t267 * 60)))) + bt269.1)) (bt269.1 == 0)) else (mapsheetsref12_read.j1 kj3 a2 t267 bt269.1 (bt a0 (wrap64 ((ji32) + 6))) (wrap64 ((wrap64 ((wrap64 (t265 * 3600)) + (wrap64 (t267 * 60)))) + bt269.1)) false)) else (mapsheetsref12_read.j1 kj3 a2 t267 bt269.1 (bt a0 (wrap64 ((ji32) + 6))) (wrap64 ((wrap64 ((wrap64 (t265 * 3600)) + (wrap64 (t267 * 60)))) + bt269.1)) false)) else (mapsheetsref12_read.j1 kj3 a2 t267 bt269.1 (bt a0 (wrap64 ((ji32) + 6))) (wrap64 ((wrap64 ((wrap64 (t265 * 3600)) + (wrap64 (t267 * 60)))) + bt269.1)) false)) else (if (bt a0 (wrap64 ((ji32) + 6))) = a2 then (if t265 = 0 then (if t267 = 0 then (mapsheetsref12_read.j1 kj3 a2 t267 bt269.1 (bt a0 (wrap64 ((ji32) + 6))) (wrap64 ((wrap64 ((wrap64 (t265 * 3600)) + (wrap64 (t267 * 60)))) + bt269.1)) (bt269.1 == 0)) else (mapsheetsref12_read.j1 kj3 a2 t267 bt269.1 (bt a0 (wrap64 ((ji32) + 6))) (wrap64 ((wrap64 ((wrap64 (t265 * 3600)) + (wrap64 (t267 * 60)))) + bt269.1)) false)) else (mapsheetsref12_read.j1 kj3 a2 t267 bt269.1 (bt a0 (wrap64 ((ji32) + 6))) (wrap64 ((wrap64 ((wrap64 (t265 * 3600)) + (wrap64 (t267 * 60)))) + bt269.1)) false)) else (mapsheetsref12_read.j1 kj3 a2 t267 bt269.1 (bt a0 (wrap64 ((ji32) + 6))) (wrap64 ((wrap64 ((wrap64 (t265 * 3600)) + (wrap64 (t267 * 60)))) + bt269.1)) true))) else (mapsheetsref12_read.j1 kj3 a2 t267 bt269.1 (bt a0 (wrap64 ((ji32) + 6))) (wrap64 ((wrap64 ((wrap64 (t265 * 3600)) + (wrap64 (t267 * 60)))) + bt269.1)) true)) else (mapsheetsref12_read.j1 kj3 a2 t267 bt269.1 (bt a0 (wrap64 ((ji32) + 6))) (wrap64 ((wrap64 ((wrap64 (t265 * 3600)) + (wrap64 (t267 * 60)))) + bt269.1)) true)) else (mapsheetsref12_read.j1 kj3 a2 t267 bt269.1 (bt a0 (wrap64 ((ji32) + 6))) (wrap64 ((wrap64 ((wrap64 (t265 * 3600)) + (wrap64 (t267 * 60)))) + bt269.1)) true)) else (none)) else (none))) else (none)) else (none)) else (none)) = some (r1, r2, r3) := H
         have A40 := Aside0.mk A400
         clear A400
         obtain ⟨ji41, hji41⟩ : ∃ j_ : Int, (wrap64 ((ji32) + 4)) = j_ := ⟨_, rfl⟩
         replace H : (if 0 ≤ (ji41) then (if (ji41) ≤ (wrap64 ((ji32) + 6)) then (if (wrap64 ((ji32) + 6)) ≤ (a0.size : Int) then ((mapsheetsref12_digits.f kj3 (a0.extract ((ji41) : Int).toNat ((wrap64 ((ji32) + 6)) : Int).toNat)).bind fun bt269 => (if 0 ≤ (wrap64 ((ji32) + 6)) then (if (wrap64 ((ji32) + 6)) < (a0.size : Int) then (if t266 = true then (if t268 = true then (if bt269.2 = true then (if (bt a0 (wrap64 ((ji32) + 6))) = a1 then (if (bt a0 (wrap64 ((ji32) + 6))) = a2 then (if t265 = 0 then (if t267 = 0 then (mapsheetsref12_read.j1 kj3 a2 t267 bt269.1 (bt a0 (wrap64 ((ji32) + 6))) (wrap64 ((wrap64 ((wrap64 (t265 * 3600)) + (wrap64 (t267 * 60)))) + bt269.1)) (bt269.1 == 0)) else (mapsheetsref12_read.j1 kj3 a2 t267 bt269.1 (bt a0 (wrap64 ((ji32) + 6))) (wrap64 ((wrap64 ((wrap64 (t265 * 3600)) + (wrap64 (t267 * 60)))) + bt269.1)) false)) else (mapsheetsref12_read.j1 kj3 a2 t267 bt269.1 (bt a0 (wrap64 ((ji32) + 6))) (wrap64 ((wrap64 ((wrap64 (t265 * 3600)) + (wrap64 (t267 * 60)))) + bt269.1)) false)) else (mapsheetsref12_read.j1 kj3 a2 t267 bt269.1 (bt a0 (wrap64 ((ji32) + 6))) (wrap64 ((wrap64 ((wrap64 (t265 * 3600)) + (wrap64 (t267 * 60)))) + bt269.1)) false)) else (if (bt a0 (wrap64 ((ji32) + 6))) = a2 then (if t265 = 0 then (if t267 = 0 then (mapsheetsref12_read.j1 kj3 a2 t267 bt269.1 (bt a0 (wrap64 ((ji32) + 6))) (wrap64 ((wrap64 ((wrap64 (t265 * 3600)) + (wrap64 (t267 * 60)))) + bt269.1)) (bt269.1 == 0)) else (mapsheetsref12_read.j1 kj3 a2 t267 bt269.1 (bt a0 (wrap64 ((ji32) + 6))) (wrap64 ((wrap64 ((wrap64 (t265 * 3600)) + (wrap64 (t267 * 60)))) + bt269.1)) false)) else (mapsheetsref12_read.j1 kj3 a2 t267 bt269.1 (bt a0 (wrap64 ((ji32) + 6))) (wrap64 ((wrap64 ((wrap64 (t265 * 3600)) + (wrap64 (t267 * 60)))) + bt269.1)) false)) else (mapsheetsref12_read.j1 kj3 a2 t267 bt269.1 (bt a0 (wrap64 ((ji32) + 6))) (wrap64 ((wrap64 ((wrap64 (t265 * 3600)) + (wrap64 (t267 * 60)))) + bt269.1)) true))) else (mapsheetsref12_read.j1 kj3 a2 t267 bt269.1 (bt a0 (wrap64 ((ji32) + 6))) (wrap64 ((wrap64 ((wrap64 (t265 * 3600)) + (wrap64 (t267 * 60)))) + bt269.1)) true)) else (mapsheetsref12_read.j1 kj3 a2 t267 bt269.1 (bt a0 (wrap64 ((ji32) + 6))) (wrap64 ((wrap64 ((wrap64 (t265 * 3600)) + (wrap64 (t267 * 60)))) + bt269.1)) true)) else (mapsheetsref12_read.j1 kj3 a2 t267 bt269.1 (bt a0 (wrap64 ((ji32) + 6))) (wrap64 ((wrap64 ((wrap64 (t265 * 3600)) + (wrap64 (t267 * 60)))) + bt269.1)) true)) else (none)) else (none))) else (none)) else (none)) else (none)) = some (r1, r2, r3) := by first | (rw [hji41] at H; exact H) | (simp only [hji41] at H ⊢; exact H)
         (try rw [hji41] at A35)
         (try rw [hji41] at A40)
         have hji41w : (IntKind.i64.wrap ((ji32) + 4)) = ji41 := (i64_w _).trans hji41
         by_cases c42 : 0 ≤ (ji41)
         ·rw [if_pos c42] at H
          have c42b0 := eq_true c42
          have c42b1 : decide (0 ≤ (ji41)) = true := decide_eq_true c42
          clear c42
          by_cases c43 : (ji41) ≤ (wrap64 ((ji32) + 6))
          ·rw [if_pos c43] at H
           have c43b0 := eq_true c43
           have c43b1 : decide ((ji41) ≤ (wrap64 ((ji32) + 6))) = true := decide_eq_true c43
           by_cases c44 : (wrap64 ((ji32) + 6)) ≤ (a0.size : Int)
           ·rw [if_pos c44] at H
            have c44b0 := eq_true c44
            have c44b1 : decide ((wrap64 ((ji32) + 6)) ≤ (a0.size : Int)) = true := decide_eq_true c44
            replace H := Option.bind_eq_some_iff.mp H
            obtain ⟨⟨t269, t270⟩, A450, H⟩ := H
            replace H : (if 0 ≤ (wrap64 ((ji32) + 6)) then (if (wrap64 ((ji32) + 6)) < (a0.size : Int) then (if t266 = true then (if t268 = true then (if t270 = true then (if (bt a0 (wrap64 ((ji32) + 6))) = a1 then (if (bt a0 (wrap64 ((ji32) + 6))) = a2 then (if t265 = 0 then (if t267 = 0 then (mapsheetsref12_read.j1 kj3 a2 t267 t269 (bt a0 (wrap64 ((ji32) + 6))) (wrap64 ((wrap64 ((wrap64 (t265 * 3600)) + (wrap64 (t267 * 60)))) + t269)) (t269 == 0)) else (mapsheetsref12_read.j1 kj3 a2 t267 t269 (bt a0 (wrap64 ((ji32) + 6))) (wrap64 ((wrap64 ((wrap64 (t265 * 3600)) + (wrap64 (t267 * 60)))) + t269)) false)) else (mapsheetsref12_read.j1 kj3 a2 t267 t269 (bt a0 (wrap64 ((ji32) + 6))) (wrap64 ((wrap64 ((wrap64 (t265 * 3600)) + (wrap64 (t267 * 60)))) + t269)) false)) else (mapsheetsref12_read.j1 kj3 a2 t267 t269 (bt a0 (wrap64 ((ji32) + 6))) (wrap64 ((wrap64 ((wrap64 (t265 * 3600)) + (wrap64 (t267 * 60)))) + t269)) false)) else (if (bt a0 (wrap64 ((ji32) + 6))) = a2 then (if t265 = 0 then (if t267 = 0 then (mapsheetsref12_read.j1 kj3 a2 t267 t269 (bt a0 (wrap64 ((ji32) + 6))) (wrap64 ((wrap64 ((wrap64 (t265 * 3600)) + (wrap64 (t267 * 60)))) + t269)) (t269 == 0)) else (mapsheetsref12_read.j1 kj3 a2 t267 t269 (bt a0 (wrap64 ((ji32) + 6))) (wrap64 ((wrap64 ((wrap64 (t265 * 3600)) + (wrap64 (t267 * 60)))) + t269)) false)) else (mapsheetsref12_read.j1 kj3 a2 t267 t269 (bt a0 (wrap64 ((ji32) + 6))) (wrap64 ((wrap64 ((wrap64 (t265 * 3600)) + (wrap64 (t267 * 60)))) + t269)) false)) else (mapsheetsref12_read.j1 kj3 a2 t267 t269 (bt a0 (wrap64 ((ji32) + 6))) (wrap64 ((wrap64 ((wrap64 (t265 * 3600)) + (wrap64 (t267 * 60)))) + t269)) true))) else (mapsheetsref12_read.j1 kj3 a2 t267 t269 (bt a0 (wrap64 ((ji32) + 6))) (wrap64 ((wrap64 ((wrap64 (t265 * 3600)) + (wrap64 (t267 * 60)))) + t269)) true)) else (mapsheetsref12_read.j1 kj3 a2 t267 t269 (bt a0 (wrap64 ((ji32) + 6))) (wrap64 ((wrap64 ((wrap64 (t265 * 3600)) + (wrap64 (t267 * 60)))) + t269)) true)) else (mapsheetsref12_read.j1 kj3 a2 t267 t269 (bt a0 (wrap64 ((ji32) + 6))) (wrap64 ((wrap64 ((wrap64 (t265 * 3600)) + (wrap64 (t267 * 60)))) + t269)) true)) else (none)) else (none)) = some (r1, r2, r3) := H
            have A45 := Aside0.mk A450
            clear A450
            obtain ⟨ji46, hji46⟩ : ∃ j_ : Int, (wrap64 ((ji32) + 6)) = j_ := ⟨_, rfl⟩
            replace H : (if 0 ≤ (ji46) then (if (ji46) < (a0.size : Int) then (if t266 = true then (if t268 = true then (if t270 = true then (if (bt a0 (ji46)) = a1 then (if (bt a0 (ji46)) = a2 then (if t265 = 0 then (if t267 = 0 then (mapsheetsref12_read.j1 kj3 a2 t267 t269 (bt a0 (ji46)) (wrap64 ((wrap64 ((wrap64 (t265 * 3600)) + (wrap64 (t267 * 60)))) + t269)) (t269 == 0)) else (mapsheetsref12_read.j1 kj3 a2 t267 t269 (bt a0 (ji46)) (wrap64 ((wrap64 ((wrap64 (t265 * 3600)) + (wrap64 (t267 * 60)))) + t269)) false)) else (mapsheetsref12_read.j1 kj3 a2 t267 t269 (bt a0 (ji46)) (wrap64 ((wrap64 ((wrap64 (t265 * 3600)) + (wrap64 (t267 * 60)))) + t269)) false)) else (mapsheetsref12_read.j1 kj3 a2 t267 t269 (bt a0 (ji46)) (wrap64 ((wrap64 ((wrap64 (t265 * 3600)) + (wrap64 (t267 * 60)))) + t269)) false)) else (if (bt a0 (ji46)) = a2 then (if t265 = 0 then (if t267 = 0 then (mapsheetsref12_read.j1 kj3 a2 t267 t269 (bt a0 (ji46)) (wrap64 ((wrap64 ((wrap64 (t265 * 3600)) + (wrap64 (t267 * 60)))) + t269)) (t269 == 0)) else (mapsheetsref12_read.j1 kj3 a2 t267 t269 (bt a0 (ji46)) (wrap64 ((wrap64 ((wrap64 (t265 * 3600)) + (wrap64 (t267 * 60)))) + t269)) false)) else (mapsheetsref12_read.j1 kj3 a2 t267 t269 (bt a0 (ji46)) (wrap64 ((wrap64 ((wrap64 (t265 * 3600)) + (wrap64 (t267 * 60)))) + t269)) false)) else (mapsheetsref12_read.j1 kj3 a2 t267 t269 (bt a0 (ji46)) (wrap64 ((wrap64 ((wrap64 (t265 * 3600)) + (wrap64 (t267 * 60)))) + t269)) true))) else (mapsheetsref12_read.j1 kj3 a2 t267 t269 (bt a0 (ji46)) (wrap64 ((wrap64 ((wrap64 (t265 * 3600)) + (wrap64 (t267 * 60)))) + t269)) true)) else (mapsheetsref12_read.j1 kj3 a2 t267 t269 (bt a0 (ji46)) (wrap64 ((wrap64 ((wrap64 (t265 * 3600)) + (wrap64 (t267 * 60)))) + t269)) true)) else (mapsheetsref12_read.j1 kj3 a2 t267 t269 (bt a0 (ji46)) (wrap64 ((wrap64 ((wrap64 (t265 * 3600)) + (wrap64 (t267 * 60)))) + t269)) true)) else (none)) else (none)) = some (r1, r2, r3) := by first | (rw [hji46] at H; exact H) | (simp only [hji46] at H ⊢; exact H)
            (try rw [hji46] at c43b0)
            (try rw [hji46] at c43b1)
            (try rw [hji46] at c43)
            (try rw [hji46] at c44b0)
            (try rw [hji46] at c44b1)
            (try rw [hji46] at c44)
            (try rw [hji46] at A35)
            (try rw [hji46] at A40)
            (try rw [hji46] at A45)
            have hji46w : (IntKind.i64.wrap ((ji32) + 6)) = ji46 := (i64_w _).trans hji46
            by_cases c47 : 0 ≤ (ji46)
            ·rw [if_pos c47] at H
             have c47b0 : decide (0 ≤ (ji46)) = true := decide_eq_true c47
             clear c47
             by_cases c48 : (ji46) < (a0.size : Int)
             ·rw [if_pos c48] at H
              have c48b0 : decide ((ji46) < (a0.size : Int)) = true := decide_eq_true c48
              clear c48
              have HC50 := Aside0.mk H
              clear H
              go_upto_region 9 with (first | ((with_reducible refine gate_callee (f := 36) rfl ?_); refine goesL_ (some 52) rfl rfl Try.func36 (by kernel_rfl) rfl #[.string (a0.extract 0 ((ji32) : Int).toNat)] rfl (by (try simp only [List.map_toArray, List.map_cons, List.map_nil]); first | done | (simp only [hji32]; rfl) | rfl | (simp only [List.length_drop, List.length_take]; rfl)) ?_; (with_reducible refine (mapsheetsref12_digits.calls kj3 (a0.extract 0 ((ji32) : Int).toNat) t265 t266 _ A35.out).mono ?_); rintro e w' ⟨rfl, ⟨nd, rfl⟩⟩; refine ⟨_, rfl, ?_⟩) | ((with_reducible refine gate_callee (f := 36) rfl ?_); refine goesL_ (some 62) rfl rfl Try.func36 (by kernel_rfl) rfl #[.string (a0.extract ((ji36) : Int).toNat ((wrap64 ((ji32) + 3)) : Int).toNat)] rfl (by (try simp only [List.map_toArray, List.map_cons, List.map_nil]); first | done | (simp only [hji32, hji36]; rfl) | rfl | (simp only [List.length_drop, List.length_take]; rfl)) ?_; (with_reducible refine (mapsheetsref12_digits.calls kj3 (a0.extract ((ji36) : Int).toNat ((wrap64 ((ji32) + 3)) : Int).toNat) t267 t268 _ A40.out).mono ?_); rintro e w' ⟨rfl, ⟨nd, rfl⟩⟩; refine ⟨_, rfl, ?_⟩) | ((with_reducible refine gate_callee (f := 36) rfl ?_); refine goesL_ (some 72) rfl rfl Try.func36 (by kernel_rfl) rfl #[.string (a0.extract ((ji41) : Int).toNat ((ji46) : Int).toNat)] rfl (by (try simp only [List.map_toArray, List.map_cons, List.map_nil]); first | done | (simp only [hji41, hji46]; rfl) | rfl | (simp only [List.length_drop, List.length_take]; rfl)) ?_; (with_reducible refine (mapsheetsref12_digits.calls kj3 (a0.extract ((ji41) : Int).toNat ((ji46) : Int).toNat) t269 t270 _ A45.out).mono ?_); rintro e w' ⟨rfl, ⟨nd, rfl⟩⟩; refine ⟨_, rfl, ?_⟩; have p49 : 0 ≤ ((ji46) : Int) := of_decide_eq_true (by first | (with_reducible assumption) | assumption); have q49 : (ji46) < (a0.size : Int) := of_decide_eq_true (by first | (with_reducible assumption) | assumption); have hx49 := bt_at a0 (ji46); replace p49 := eq_true p49; replace q49 := eq_true q49))
              (try simp only [Act.put, s1, s2, s3])
              go_cut [122] (fun v122 wc => ∃ (kq : Nat) (x122_49 : Bool), v122 = .bool x122_49 ∧ Aside0 (mapsheetsref12_read.j1 kq a2 t267 t269 (bt a0 (ji46)) (wrap64 ((wrap64 ((wrap64 (t265 * 3600)) + (wrap64 (t267 * 60)))) + t269)) x122_49 = some (r1, r2, r3)) ∧ Aside0 (kq ≤ kj3) ∧ Aside0 (wc.heap[gb264]? = some (.cells #[.int .i64 0, .bool false, .bool false] 44 (0, 0))) ∧ Aside0 (Below w.heap.size w wc))
              case first =>
               have H := HC50.out
               clear HC50
               by_cases c51 : t266 = true
               ·subst c51
                have H1 : (if t268 = true then (if t270 = true then (if (bt a0 (ji46)) = a1 then (if (bt a0 (ji46)) = a2 then (if t265 = 0 then (if t267 = 0 then (mapsheetsref12_read.j1 kj3 a2 t267 t269 (bt a0 (ji46)) (wrap64 ((wrap64 ((wrap64 (t265 * 3600)) + (wrap64 (t267 * 60)))) + t269)) (t269 == 0)) else (mapsheetsref12_read.j1 kj3 a2 t267 t269 (bt a0 (ji46)) (wrap64 ((wrap64 ((wrap64 (t265 * 3600)) + (wrap64 (t267 * 60)))) + t269)) false)) else (mapsheetsref12_read.j1 kj3 a2 t267 t269 (bt a0 (ji46)) (wrap64 ((wrap64 ((wrap64 (t265 * 3600)) + (wrap64 (t267 * 60)))) + t269)) false)) else (mapsheetsref12_read.j1 kj3 a2 t267 t269 (bt a0 (ji46)) (wrap64 ((wrap64 ((wrap64 (t265 * 3600)) + (wrap64 (t267 * 60)))) + t269)) false)) else (if (bt a0 (ji46)) = a2 then (if t265 = 0 then (if t267 = 0 then (mapsheetsref12_read.j1 kj3 a2 t267 t269 (bt a0 (ji46)) (wrap64 ((wrap64 ((wrap64 (t265 * 3600)) + (wrap64 (t267 * 60)))) + t269)) (t269 == 0)) else (mapsheetsref12_read.j1 kj3 a2 t267 t269 (bt a0 (ji46)) (wrap64 ((wrap64 ((wrap64 (t265 * 3600)) + (wrap64 (t267 * 60)))) + t269)) false)) else (mapsheetsref12_read.j1 kj3 a2 t267 t269 (bt a0 (ji46)) (wrap64 ((wrap64 ((wrap64 (t265 * 3600)) + (wrap64 (t267 * 60)))) + t269)) false)) else (mapsheetsref12_read.j1 kj3 a2 t267 t269 (bt a0 (ji46)) (wrap64 ((wrap64 ((wrap64 (t265 * 3600)) + (wrap64 (t267 * 60)))) + t269)) true))) else (mapsheetsref12_read.j1 kj3 a2 t267 t269 (bt a0 (ji46)) (wrap64 ((wrap64 ((wrap64 (t265 * 3600)) + (wrap64 (t267 * 60)))) + t269)) true)) else (mapsheetsref12_read.j1 kj3 a2 t267 t269 (bt a0 (ji46)) (wrap64 ((wrap64 ((wrap64 (t265 * 3600)) + (wrap64 (t267 * 60)))) + t269)) true)) = some (r1, r2, r3) := by rw [if_pos rfl] at H; exact H
                clear H
                have H := H1
                clear H1
                by_cases c52 : t268 = true
                ·subst c52
                 have H1 : (if t270 = true then (if (bt a0 (ji46)) = a1 then (if (bt a0 (ji46)) = a2 then (if t265 = 0 then (if t267 = 0 then (mapsheetsref12_read.j1 kj3 a2 t267 t269 (bt a0 (ji46)) (wrap64 ((wrap64 ((wrap64 (t265 * 3600)) + (wrap64 (t267 * 60)))) + t269)) (t269 == 0)) else (mapsheetsref12_read.j1 kj3 a2 t267 t269 (bt a0 (ji46)) (wrap64 ((wrap64 ((wrap64 (t265 * 3600)) + (wrap64 (t267 * 60)))) + t269)) false)) else (mapsheetsref12_read.j1 kj3 a2 t267 t269 (bt a0 (ji46)) (wrap64 ((wrap64 ((wrap64 (t265 * 3600)) + (wrap64 (t267 * 60)))) + t269)) false)) else (mapsheetsref12_read.j1 kj3 a2 t267 t269 (bt a0 (ji46)) (wrap64 ((wrap64 ((wrap64 (t265 * 3600)) + (wrap64 (t267 * 60)))) + t269)) false)) else (if (bt a0 (ji46)) = a2 then (if t265 = 0 then (if t267 = 0 then (mapsheetsref12_read.j1 kj3 a2 t267 t269 (bt a0 (ji46)) (wrap64 ((wrap64 ((wrap64 (t265 * 3600)) + (wrap64 (t267 * 60)))) + t269)) (t269 == 0)) else (mapsheetsref12_read.j1 kj3 a2 t267 t269 (bt a0 (ji46)) (wrap64 ((wrap64 ((wrap64 (t265 * 3600)) + (wrap64 (t267 * 60)))) + t269)) false)) else (mapsheetsref12_read.j1 kj3 a2 t267 t269 (bt a0 (ji46)) (wrap64 ((wrap64 ((wrap64 (t265 * 3600)) + (wrap64 (t267 * 60)))) + t269)) false)) else (mapsheetsref12_read.j1 kj3 a2 t267 t269 (bt a0 (ji46)) (wrap64 ((wrap64 ((wrap64 (t265 * 3600)) + (wrap64 (t267 * 60)))) + t269)) true))) else (mapsheetsref12_read.j1 kj3 a2 t267 t269 (bt a0 (ji46)) (wrap64 ((wrap64 ((wrap64 (t265 * 3600)) + (wrap64 (t267 * 60)))) + t269)) true)) = some (r1, r2, r3) := by rw [if_pos rfl] at H; exact H
                 clear H
                 have H := H1
                 clear H1
                 by_cases c53 : t270 = true
                 ·subst c53
                  have H1 : (if (bt a0 (ji46)) = a1 then (if (bt a0 (ji46)) = a2 then (if t265 = 0 then (if t267 = 0 then (mapsheetsref12_read.j1 kj3 a2 t267 t269 (bt a0 (ji46)) (wrap64 ((wrap64 ((wrap64 (t265 * 3600)) + (wrap64 (t267 * 60)))) + t269)) (t269 == 0)) else (mapsheetsref12_read.j1 kj3 a2 t267 t269 (bt a0 (ji46)) (wrap64 ((wrap64 ((wrap64 (t265 * 3600)) + (wrap64 (t267 * 60)))) + t269)) false)) else (mapsheetsref12_read.j1 kj3 a2 t267 t269 (bt a0 (ji46)) (wrap64 ((wrap64 ((wrap64 (t265 * 3600)) + (wrap64 (t267 * 60)))) + t269)) false)) else (mapsheetsref12_read.j1 kj3 a2 t267 t269 (bt a0 (ji46)) (wrap64 ((wrap64 ((wrap64 (t265 * 3600)) + (wrap64 (t267 * 60)))) + t269)) false)) else (if (bt a0 (ji46)) = a2 then (if t265 = 0 then (if t267 = 0 then (mapsheetsref12_read.j1 kj3 a2 t267 t269 (bt a0 (ji46)) (wrap64 ((wrap64 ((wrap64 (t265 * 3600)) + (wrap64 (t267 * 60)))) + t269)) (t269 == 0)) else (mapsheetsref12_read.j1 kj3 a2 t267 t269 (bt a0 (ji46)) (wrap64 ((wrap64 ((wrap64 (t265 * 3600)) + (wrap64 (t267 * 60)))) + t269)) false)) else (mapsheetsref12_read.j1 kj3 a2 t267 t269 (bt a0 (ji46)) (wrap64 ((wrap64 ((wrap64 (t265 * 3600)) + (wrap64 (t267 * 60)))) + t269)) false)) else (mapsheetsref12_read.j1 kj3 a2 t267 t269 (bt a0 (ji46)) (wrap64 ((wrap64 ((wrap64 (t265 * 3600)) + (wrap64 (t267 * 60)))) + t269)) true))) = some (r1, r2, r3) := by rw [if_pos rfl] at H; exact H
                  clear H
                  have H := H1
                  clear H1
                  by_cases c54 : (bt a0 (ji46)) = a1
                  ·rw [if_pos c54] at H
                   have c54b0 : ((bt a0 (ji46)) == a1) = true := beq_iff_eq.mpr c54
                   have c54b1 : ((bt a0 (ji46)) != a1) = false := bne_eq_false_iff_eq.mpr c54
                   clear c54
                   (first | rw [c54b0] | (simp only [i64_w, i32_w]; rw [c54b0]) | skip)
                   by_cases c55 : (bt a0 (ji46)) = a2
                   ·rw [if_pos c55] at H
                    have c55b0 : ((bt a0 (ji46)) == a2) = true := beq_iff_eq.mpr c55
                    have c55b1 : ((bt a0 (ji46)) != a2) = false := bne_eq_false_iff_eq.mpr c55
                    clear c55
                    by_cases c56 : t265 = 0
                    ·rw [if_pos c56] at H
                     have c56b0 : (t265 == 0) = true := beq_iff_eq.mpr c56
                     have c56b1 : (t265 != 0) = false := bne_eq_false_iff_eq.mpr c56
                     clear c56
                     by_cases c57 : t267 = 0
                     ·rw [if_pos c57] at H
                      have c57b0 : (t267 == 0) = true := beq_iff_eq.mpr c57
                      have c57b1 : (t267 != 0) = false := bne_eq_false_iff_eq.mpr c57
                      clear c57
                      have H' := Aside0.mk H
                      clear H
                      go_wp2
                      go_meet
                      case rel => exact ⟨_, ((t269 == 0)), (by first | rfl | (simp; done) | (simp [*]; done)), (by first | exact H' | (rw [← hji46] at H'; exact H') | (rw [← hji41] at H'; exact H') | (rw [← hji36] at H'; exact H') | (rw [← hji32] at H'; exact H') | (rw [← hji26] at H'; exact H') | (rw [← hji21] at H'; exact H')), ⟨by have := HJ3.out; first | omega | exact Nat.le_refl _⟩, ⟨by (with_reducible repeat (first | refine n_ ?_ _ | refine d_ ?_ | refine a_ ?_ _)); exact BK264.out⟩, ⟨by repeat (first | (with_reducible first | exact HB.out | apply ba | apply bn | apply bd | refine bs ?_ GE264.out) | exact HB.out)⟩⟩
                     ·rw [if_neg c57] at H
                      have c57b0 : (t267 == 0) = false := beq_eq_false_iff_ne.mpr c57
                      have c57b1 : (t267 != 0) = true := bne_iff_ne.mpr c57
                      have H' := Aside0.mk H
                      clear H
                      go_wp2
                      go_meet
                      case rel => exact ⟨_, (false), (by first | rfl | (simp; done) | (simp [*]; done)), (by first | exact H' | (rw [← hji46] at H'; exact H') | (rw [← hji41] at H'; exact H') | (rw [← hji36] at H'; exact H') | (rw [← hji32] at H'; exact H') | (rw [← hji26] at H'; exact H') | (rw [← hji21] at H'; exact H')), ⟨by have := HJ3.out; first | omega | exact Nat.le_refl _⟩, ⟨by (with_reducible repeat (first | refine n_ ?_ _ | refine d_ ?_ | refine a_ ?_ _)); exact BK264.out⟩, ⟨by repeat (first | (with_reducible first | exact HB.out | apply ba | apply bn | apply bd | refine bs ?_ GE264.out) | exact HB.out)⟩⟩
                    ·rw [if_neg c56] at H
                     have c56b0 : (t265 == 0) = false := beq_eq_false_iff_ne.mpr c56
                     have c56b1 : (t265 != 0) = true := bne_iff_ne.mpr c56
                     have H' := Aside0.mk H
                     clear H
                     go_wp2
                     go_meet
                     case rel => exact ⟨_, (false), (by first | rfl | (simp; done) | (simp [*]; done)), (by first | exact H' | (rw [← hji46] at H'; exact H') | (rw [← hji41] at H'; exact H') | (rw [← hji36] at H'; exact H') | (rw [← hji32] at H'; exact H') | (rw [← hji26] at H'; exact H') | (rw [← hji21] at H'; exact H')), ⟨by have := HJ3.out; first | omega | exact Nat.le_refl _⟩, ⟨by (with_reducible repeat (first | refine n_ ?_ _ | refine d_ ?_ | refine a_ ?_ _)); exact BK264.out⟩, ⟨by repeat (first | (with_reducible first | exact HB.out | apply ba | apply bn | apply bd | refine bs ?_ GE264.out) | exact HB.out)⟩⟩
                   ·rw [if_neg c55] at H
                    have c55b0 : ((bt a0 (ji46)) == a2) = false := beq_eq_false_iff_ne.mpr c55
                    have c55b1 : ((bt a0 (ji46)) != a2) = true := bne_iff_ne.mpr c55
                    have H' := Aside0.mk H
                    clear H
                    go_wp2
                    go_meet
                    case rel => exact ⟨_, (false), (by first | rfl | (simp; done) | (simp [*]; done)), (by first | exact H' | (rw [← hji46] at H'; exact H') | (rw [← hji41] at H'; exact H') | (rw [← hji36] at H'; exact H') | (rw [← hji32] at H'; exact H') | (rw [← hji26] at H'; exact H') | (rw [← hji21] at H'; exact H')), ⟨by have := HJ3.out; first | omega | exact Nat.le_refl _⟩, ⟨by (with_reducible repeat (first | refine n_ ?_ _ | refine d_ ?_ | refine a_ ?_ _)); exact BK264.out⟩, ⟨by repeat (first | (with_reducible first | exact HB.out | apply ba | apply bn | apply bd | refine bs ?_ GE264.out) | exact HB.out)⟩⟩
                  ·rw [if_neg c54] at H
                   have c54b0 : ((bt a0 (ji46)) == a1) = false := beq_eq_false_iff_ne.mpr c54
                   have c54b1 : ((bt a0 (ji46)) != a1) = true := bne_iff_ne.mpr c54
                   (first | rw [c54b0] | (simp only [i64_w, i32_w]; rw [c54b0]) | skip)
                   by_cases c58 : (bt a0 (ji46)) = a2
                   ·rw [if_pos c58] at H
                    have c58b0 : ((bt a0 (ji46)) == a2) = true := beq_iff_eq.mpr c58
                    have c58b1 : ((bt a0 (ji46)) != a2) = false := bne_eq_false_iff_eq.mpr c58
                    clear c58
                    by_cases c59 : t265 = 0
                    ·rw [if_pos c59] at H
                     have c59b0 : (t265 == 0) = true := beq_iff_eq.mpr c59
                     have c59b1 : (t265 != 0) = false := bne_eq_false_iff_eq.mpr c59
                     clear c59
                     by_cases c60 : t267 = 0
                     ·rw [if_pos c60] at H
                      have c60b0 : (t267 == 0) = true := beq_iff_eq.mpr c60
                      have c60b1 : (t267 != 0) = false := bne_eq_false_iff_eq.mpr c60
                      clear c60
                      have H' := Aside0.mk H
                      clear H
                      go_wp2
                      go_meet
                      case rel => exact ⟨_, ((t269 == 0)), (by first | rfl | (simp; done) | (simp [*]; done)), (by first | exact H' | (rw [← hji46] at H'; exact H') | (rw [← hji41] at H'; exact H') | (rw [← hji36] at H'; exact H') | (rw [← hji32] at H'; exact H') | (rw [← hji26] at H'; exact H') | (rw [← hji21] at H'; exact H')), ⟨by have := HJ3.out; first | omega | exact Nat.le_refl _⟩, ⟨by (with_reducible repeat (first | refine n_ ?_ _ | refine d_ ?_ | refine a_ ?_ _)); exact BK264.out⟩, ⟨by repeat (first | (with_reducible first | exact HB.out | apply ba | apply bn | apply bd | refine bs ?_ GE264.out) | exact HB.out)⟩⟩
                     ·rw [if_neg c60] at H
                      have c60b0 : (t267 == 0) = false := beq_eq_false_iff_ne.mpr c60
                      have c60b1 : (t267 != 0) = true := bne_iff_ne.mpr c60
                      have H' := Aside0.mk H
                      clear H
                      go_wp2
                      go_meet
                      case rel => exact ⟨_, (false), (by first | rfl | (simp; done) | (simp [*]; done)), (by first | exact H' | (rw [← hji46] at H'; exact H') | (rw [← hji41] at H'; exact H') | (rw [← hji36] at H'; exact H') | (rw [← hji32] at H'; exact H') | (rw [← hji26] at H'; exact H') | (rw [← hji21] at H'; exact H')), ⟨by have := HJ3.out; first | omega | exact Nat.le_refl _⟩, ⟨by (with_reducible repeat (first | refine n_ ?_ _ | refine d_ ?_ | refine a_ ?_ _)); exact BK264.out⟩, ⟨by repeat (first | (with_reducible first | exact HB.out | apply ba | apply bn | apply bd | refine bs ?_ GE264.out) | exact HB.out)⟩⟩
                    ·rw [if_neg c59] at H
                     have c59b0 : (t265 == 0) = false := beq_eq_false_iff_ne.mpr c59
                     have c59b1 : (t265 != 0) = true := bne_iff_ne.mpr c59
                     have H' := Aside0.mk H
                     clear H
                     go_wp2
                     go_meet
                     case rel => exact ⟨_, (false), (by first | rfl | (simp; done) | (simp [*]; done)), (by first | exact H' | (rw [← hji46] at H'; exact H') | (rw [← hji41] at H'; exact H') | (rw [← hji36] at H'; exact H') | (rw [← hji32] at H'; exact H') | (rw [← hji26] at H'; exact H') | (rw [← hji21] at H'; exact H')), ⟨by have := HJ3.out; first | omega | exact Nat.le_refl _⟩, ⟨by (with_reducible repeat (first | refine n_ ?_ _ | refine d_ ?_ | refine a_ ?_ _)); exact BK264.out⟩, ⟨by repeat (first | (with_reducible first | exact HB.out | apply ba | apply bn | apply bd | refine bs ?_ GE264.out) | exact HB.out)⟩⟩
                   ·rw [if_neg c58] at H
                    have c58b0 : ((bt a0 (ji46)) == a2) = false := beq_eq_false_iff_ne.mpr c58
                    have c58b1 : ((bt a0 (ji46)) != a2) = true := bne_iff_ne.mpr c58
                    have H' := Aside0.mk H
                    clear H
                    go_wp2
                    go_meet
                    case rel => exact ⟨_, (true), (by first | rfl | (simp; done) | (simp [*]; done)), (by first | exact H' | (rw [← hji46] at H'; exact H') | (rw [← hji41] at H'; exact H') | (rw [← hji36] at H'; exact H') | (rw [← hji32] at H'; exact H') | (rw [← hji26] at H'; exact H') | (rw [← hji21] at H'; exact H')), ⟨by have := HJ3.out; first | omega | exact Nat.le_refl _⟩, ⟨by (with_reducible repeat (first | refine n_ ?_ _ | refine d_ ?_ | refine a_ ?_ _)); exact BK264.out⟩, ⟨by repeat (first | (with_reducible first | exact HB.out | apply ba | apply bn | apply bd | refine bs ?_ GE264.out) | exact HB.out)⟩⟩
                 ·replace c53 := Bool.eq_false_iff.mpr c53
                  subst c53
                  have H1 : (mapsheetsref12_read.j1 kj3 a2 t267 t269 (bt a0 (ji46)) (wrap64 ((wrap64 ((wrap64 (t265 * 3600)) + (wrap64 (t267 * 60)))) + t269)) true) = some (r1, r2, r3) := by rw [if_neg (show ¬ (false = true) by decide)] at H; exact H
                  clear H
                  have H := H1
                  clear H1
                  have H' := Aside0.mk H
                  clear H
                  go_wp2
                  go_meet
                  case rel => exact ⟨_, (true), (by first | rfl | (simp; done) | (simp [*]; done)), (by first | exact H' | (rw [← hji46] at H'; exact H') | (rw [← hji41] at H'; exact H') | (rw [← hji36] at H'; exact H') | (rw [← hji32] at H'; exact H') | (rw [← hji26] at H'; exact H') | (rw [← hji21] at H'; exact H')), ⟨by have := HJ3.out; first | omega | exact Nat.le_refl _⟩, ⟨by (with_reducible repeat (first | refine n_ ?_ _ | refine d_ ?_ | refine a_ ?_ _)); exact BK264.out⟩, ⟨by repeat (first | (with_reducible first | exact HB.out | apply ba | apply bn | apply bd | refine bs ?_ GE264.out) | exact HB.out)⟩⟩
                ·replace c52 := Bool.eq_false_iff.mpr c52
                 subst c52
                 have H1 : (mapsheetsref12_read.j1 kj3 a2 t267 t269 (bt a0 (ji46)) (wrap64 ((wrap64 ((wrap64 (t265 * 3600)) + (wrap64 (t267 * 60)))) + t269)) true) = some (r1, r2, r3) := by rw [if_neg (show ¬ (false = true) by decide)] at H; exact H
                 clear H
                 have H := H1
                 clear H1
                 have H' := Aside0.mk H
                 clear H
                 go_wp2
                 go_meet
                 case rel => exact ⟨_, (true), (by first | rfl | (simp; done) | (simp [*]; done)), (by first | exact H' | (rw [← hji46] at H'; exact H') | (rw [← hji41] at H'; exact H') | (rw [← hji36] at H'; exact H') | (rw [← hji32] at H'; exact H') | (rw [← hji26] at H'; exact H') | (rw [← hji21] at H'; exact H')), ⟨by have := HJ3.out; first | omega | exact Nat.le_refl _⟩, ⟨by (with_reducible repeat (first | refine n_ ?_ _ | refine d_ ?_ | refine a_ ?_ _)); exact BK264.out⟩, ⟨by repeat (first | (with_reducible first | exact HB.out | apply ba | apply bn | apply bd | refine bs ?_ GE264.out) | exact HB.out)⟩⟩
               ·replace c51 := Bool.eq_false_iff.mpr c51
                subst c51
                have H1 : (mapsheetsref12_read.j1 kj3 a2 t267 t269 (bt a0 (ji46)) (wrap64 ((wrap64 ((wrap64 (t265 * 3600)) + (wrap64 (t267 * 60)))) + t269)) true) = some (r1, r2, r3) := by rw [if_neg (show ¬ (false = true) by decide)] at H; exact H
                clear H
                have H := H1
                clear H1
                have H' := Aside0.mk H
                clear H
                go_wp2
                go_meet
                case rel => exact ⟨_, (true), (by first | rfl | (simp; done) | (simp [*]; done)), (by first | exact H' | (rw [← hji46] at H'; exact H') | (rw [← hji41] at H'; exact H') | (rw [← hji36] at H'; exact H') | (rw [← hji32] at H'; exact H') | (rw [← hji26] at H'; exact H') | (rw [← hji21] at H'; exact H')), ⟨by have := HJ3.out; first | omega | exact Nat.le_refl _⟩, ⟨by (with_reducible repeat (first | refine n_ ?_ _ | refine d_ ?_ | refine a_ ?_ _)); exact BK264.out⟩, ⟨by repeat (first | (with_reducible first | exact HB.out | apply ba | apply bn | apply bd | refine bs ?_ GE264.out) | exact HB.out)⟩⟩
              case rest =>
               clear HC50
               try clear c1
               try clear p1
               try clear q1
               try clear hx1
               try clear qi1
               try clear c2
               try clear p2
               try clear q2
               try clear hx2
               try clear c3
               try clear c4
               try clear p4
               try clear q4
               try clear hx4
               try clear c5
               try clear c6
               try clear c6b0
               try clear p6
               try clear c7
               try clear c7b0
               try clear c8
               try clear c8b0
               try clear c9
               try clear c9b0
               try clear c9b1
               try clear p10
               try clear q10
               try clear hx10
               try clear qi10
               try clear c11
               try clear c11b0
               try clear c11b1
               try clear c13
               try clear c13b0
               try clear c14
               try clear c14b0
               try clear p15
               try clear q15
               try clear hx15
               try clear c16
               try clear c16b0
               try clear c16b1
               try clear c18
               try clear c18b0
               try clear c19
               try clear c19b0
               try clear p20
               try clear q20
               try clear hx20
               try clear c22
               try clear c22b0
               try clear c23
               try clear c23b0
               try clear p24
               try clear q24
               try clear hx24
               try clear c25
               try clear c25b0
               try clear c25b1
               try clear c27
               try clear c27b0
               try clear c28
               try clear c28b0
               try clear p29
               try clear q29
               try clear hx29
               try clear c30
               try clear c33
               try clear c33b0
               try clear c33b1
               try clear c34
               try clear c34b0
               try clear c34b1
               try clear c36
               try clear c37
               try clear c37b0
               try clear c37b1
               try clear c38
               try clear c38b0
               try clear c38b1
               try clear c39
               try clear c39b0
               try clear c39b1
               try clear c42
               try clear c42b0
               try clear c42b1
               try clear c43
               try clear c43b0
               try clear c43b1
               try clear c44
               try clear c44b0
               try clear c44b1
               try clear c47
               try clear c47b0
               try clear c48
               try clear c48b0
               try clear p49
               try clear q49
               try clear hx49
               try clear c51
               try clear c52
               try clear c53
               try clear c54
               try clear c54b0
               try clear c54b1
               try clear c55
               try clear c55b0
               try clear c55b1
               try clear c56
               try clear c56b0
               try clear c56b1
               try clear c57
               try clear c57b0
               try clear c57b1
               try clear c58
               try clear c58b0
               try clear c58b1
               try clear c59
               try clear c59b0
               try clear c59b1
               try clear c60
               try clear c60b0
               try clear c60b1
               try clear hcz31_0
               try clear hcz31_1
               try clear hcz31_2
               try clear hfz31_0
               try clear hfz31_1
               try clear hfz31_2
               try clear p1
               try clear p10
               try clear p15
               try clear p2
               try clear p20
               try clear p24
               try clear p29
               try clear p49
               try clear p6
               try clear q1
               try clear q10
               try clear q15
               try clear q2
               try clear q20
               try clear q24
               try clear q29
               try clear q49
               obtain ⟨kq, x122_49, rfl, HA, HJ49, BK264, HB⟩ := hcut
               cases kq with
               | zero => exact absurd HA.out (by simp [mapsheetsref12_read.j1])
               | succ kj49 =>
                have H := HA.out
                clear HA
                simp only [mapsheetsref12_read.j1] at H
                by_cases c61 : x122_49 = true
                ·subst c61
                 have H1 : (some (0, false, false)) = some (r1, r2, r3) := by rw [if_pos rfl] at H; exact H
                 clear H
                 have H := H1
                 clear H1
                 simp only [Option.some.injEq, Prod.mk.injEq] at H
                 obtain ⟨rfl, rfl, rfl⟩ := H
                 have hcz62_0 : wc.cell? ⟨gb264, 0, none⟩ = some (.int .i64 0) := (blk_cell BK264.out 0).trans rfl
                 have hcz62_1 : wc.cell? ⟨gb264, 1, none⟩ = some (.bool false) := (blk_cell BK264.out 1).trans rfl
                 have hcz62_2 : wc.cell? ⟨gb264, 2, none⟩ = some (.bool false) := (blk_cell BK264.out 2).trans rfl
                 have hfz62_0 := blk_frozen BK264.out 0
                 have hfz62_1 := blk_frozen BK264.out 1
                 have hfz62_2 := blk_frozen BK264.out 2
                 go_wp2
                 refine bodyPost_ret (results_cell_row rfl _ _ gb264 44 #[.int .i64 0, .bool false, .bool false] (0, 0) _ rfl (by (with_reducible repeat (first | refine n_ ?_ _ | refine d_ ?_ | refine a_ ?_ _)); refine blk_put (cs := #[.int .i64 0, .bool false, .bool false]) ?_ 2 _ rfl; (with_reducible repeat (first | refine n_ ?_ _ | refine d_ ?_ | refine a_ ?_ _)); refine blk_put (cs := #[.int .i64 0, .bool false, .bool false]) ?_ 1 _ rfl; (with_reducible repeat (first | refine n_ ?_ _ | refine d_ ?_ | refine a_ ?_ _)); refine blk_put (cs := #[.int .i64 0, .bool false, .bool false]) ?_ 0 _ rfl; (with_reducible repeat (first | refine n_ ?_ _ | refine d_ ?_ | refine a_ ?_ _)); exact BK264.out) Try.underlying44 rfl (by kernel_rfl)) rfl ?_
                 exact ⟨by first | rfl | (simp [errW_none, errW_some] <;> rfl) | (simp only [← hji32, ← hji36, ← hji41, ← hji46]; first | rfl | (simp [errW_none, errW_some] <;> rfl)) | (simp [*, errW_none, errW_some] <;> rfl), by repeat (first | (with_reducible first | exact HB.out | apply ba | apply bn | apply bd | refine bs ?_ GE264.out) | exact HB.out)⟩
                ·replace c61 := Bool.eq_false_iff.mpr c61
                 subst c61
                 have H1 : (if (bt a0 (ji46)) = a2 then (if t267 < 60 then (some (wrap64 (-(wrap64 ((wrap64 ((wrap64 (t265 * 3600)) + (wrap64 (t267 * 60)))) + t269))), true, decide (t269 < 60))) else (some (wrap64 (-(wrap64 ((wrap64 ((wrap64 (t265 * 3600)) + (wrap64 (t267 * 60)))) + t269))), true, false))) else (if t267 < 60 then (some ((wrap64 ((wrap64 ((wrap64 (t265 * 3600)) + (wrap64 (t267 * 60)))) + t269)), true, decide (t269 < 60))) else (some ((wrap64 ((wrap64 ((wrap64 (t265 * 3600)) + (wrap64 (t267 * 60)))) + t269)), true, false)))) = some (r1, r2, r3) := by rw [if_neg (show ¬ (false = true) by decide)] at H; exact H
                 clear H
                 have H := H1
                 clear H1
                 by_cases c63 : (bt a0 (ji46)) = a2
                 ·rw [if_pos c63] at H
                  have c63b0 : ((bt a0 (ji46)) == a2) = true := beq_iff_eq.mpr c63
                  have c63b1 : ((bt a0 (ji46)) != a2) = false := bne_eq_false_iff_eq.mpr c63
                  clear c63
                  by_cases c64 : t267 < 60
                  ·rw [if_pos c64] at H
                   have c64b0 : decide (t267 < 60) = true := decide_eq_true c64
                   clear c64
                   simp only [Option.some.injEq, Prod.mk.injEq] at H
                   obtain ⟨rfl, rfl, rfl⟩ := H
                   have hcz65_0 : wc.cell? ⟨gb264, 0, none⟩ = some (.int .i64 0) := (blk_cell BK264.out 0).trans rfl
                   have hcz65_1 : wc.cell? ⟨gb264, 1, none⟩ = some (.bool false) := (blk_cell BK264.out 1).trans rfl
                   have hcz65_2 : wc.cell? ⟨gb264, 2, none⟩ = some (.bool false) := (blk_cell BK264.out 2).trans rfl
                   have hfz65_0 := blk_frozen BK264.out 0
                   have hfz65_1 := blk_frozen BK264.out 1
                   have hfz65_2 := blk_frozen BK264.out 2
                   go_wp2
                   refine bodyPost_ret (results_cell_row rfl _ _ gb264 44 #[.int .i64 (wrap64 (-(wrap64 ((wrap64 ((wrap64 (t265 * 3600)) + (wrap64 (t267 * 60)))) + t269)))), .bool true, .bool (decide (t269 < 60))] (0, 0) _ rfl (by (with_reducible repeat (first | refine n_ ?_ _ | refine d_ ?_ | refine a_ ?_ _)); refine blk_put (cs := #[.int .i64 (wrap64 (-(wrap64 ((wrap64 ((wrap64 (t265 * 3600)) + (wrap64 (t267 * 60)))) + t269)))), .bool true, .bool false]) ?_ 2 _ rfl; (with_reducible repeat (first | refine n_ ?_ _ | refine d_ ?_ | refine a_ ?_ _)); refine blk_put (cs := #[.int .i64 (wrap64 (-(wrap64 ((wrap64 ((wrap64 (t265 * 3600)) + (wrap64 (t267 * 60)))) + t269)))), .bool false, .bool false]) ?_ 1 _ rfl; (with_reducible repeat (first | refine n_ ?_ _ | refine d_ ?_ | refine a_ ?_ _)); refine blk_put (cs := #[.int .i64 0, .bool false, .bool false]) ?_ 0 _ rfl; (with_reducible repeat (first | refine n_ ?_ _ | refine d_ ?_ | refine a_ ?_ _)); exact BK264.out) Try.underlying44 rfl (by kernel_rfl)) rfl ?_
                   exact ⟨by first | rfl | (simp [errW_none, errW_some] <;> rfl) | (simp only [← hji32, ← hji36, ← hji41, ← hji46]; first | rfl | (simp [errW_none, errW_some] <;> rfl)) | (simp [*, errW_none, errW_some] <;> rfl), by repeat (first | (with_reducible first | exact HB.out | apply ba | apply bn | apply bd | refine bs ?_ GE264.out) | exact HB.out)⟩
                  ·rw [if_neg c64] at H
                   have c64b0 : decide (t267 < 60) = false := decide_eq_false c64
                   clear c64
                   simp only [Option.some.injEq, Prod.mk.injEq] at H
                   obtain ⟨rfl, rfl, rfl⟩ := H
                   have hcz66_0 : wc.cell? ⟨gb264, 0, none⟩ = some (.int .i64 0) := (blk_cell BK264.out 0).trans rfl
                   have hcz66_1 : wc.cell? ⟨gb264, 1, none⟩ = some (.bool false) := (blk_cell BK264.out 1).trans rfl
                   have hcz66_2 : wc.cell? ⟨gb264, 2, none⟩ = some (.bool false) := (blk_cell BK264.out 2).trans rfl
                   have hfz66_0 := blk_frozen BK264.out 0
                   have hfz66_1 := blk_frozen BK264.out 1
                   have hfz66_2 := blk_frozen BK264.out 2
                   go_wp2
                   refine bodyPost_ret (results_cell_row rfl _ _ gb264 44 #[.int .i64 (wrap64 (-(wrap64 ((wrap64 ((wrap64 (t265 * 3600)) + (wrap64 (t267 * 60)))) + t269)))), .bool true, .bool false] (0, 0) _ rfl (by (with_reducible repeat (first | refine n_ ?_ _ | refine d_ ?_ | refine a_ ?_ _)); refine blk_put (cs := #[.int .i64 (wrap64 (-(wrap64 ((wrap64 ((wrap64 (t265 * 3600)) + (wrap64 (t267 * 60)))) + t269)))), .bool true, .bool false]) ?_ 2 _ rfl; (with_reducible repeat (first | refine n_ ?_ _ | refine d_ ?_ | refine a_ ?_ _)); refine blk_put (cs := #[.int .i64 (wrap64 (-(wrap64 ((wrap64 ((wrap64 (t265 * 3600)) + (wrap64 (t267 * 60)))) + t269)))), .bool false, .bool false]) ?_ 1 _ rfl; (with_reducible repeat (first | refine n_ ?_ _ | refine d_ ?_ | refine a_ ?_ _)); refine blk_put (cs := #[.int .i64 0, .bool false, .bool false]) ?_ 0 _ rfl; (with_reducible repeat (first | refine n_ ?_ _ | refine d_ ?_ | refine a_ ?_ _)); exact BK264.out) Try.underlying44 rfl (by kernel_rfl)) rfl ?_
                   exact ⟨by first | rfl | (simp [errW_none, errW_some] <;> rfl) | (simp only [← hji32, ← hji36, ← hji41, ← hji46]; first | rfl | (simp [errW_none, errW_some] <;> rfl)) | (simp [*, errW_none, errW_some] <;> rfl), by repeat (first | (with_reducible first | exact HB.out | apply ba | apply bn | apply bd | refine bs ?_ GE264.out) | exact HB.out)⟩
                 ·rw [if_neg c63] at H
                  have c63b0 : ((bt a0 (ji46)) == a2) = false := beq_eq_false_iff_ne.mpr c63
                  have c63b1 : ((bt a0 (ji46)) != a2) = true := bne_iff_ne.mpr c63
                  by_cases c67 : t267 < 60
                  ·rw [if_pos c67] at H
                   have c67b0 : decide (t267 < 60) = true := decide_eq_true c67
                   clear c67
                   simp only [Option.some.injEq, Prod.mk.injEq] at H
                   obtain ⟨rfl, rfl, rfl⟩ := H
                   have hcz68_0 : wc.cell? ⟨gb264, 0, none⟩ = some (.int .i64 0) := (blk_cell BK264.out 0).trans rfl
                   have hcz68_1 : wc.cell? ⟨gb264, 1, none⟩ = some (.bool false) := (blk_cell BK264.out 1).trans rfl
                   have hcz68_2 : wc.cell? ⟨gb264, 2, none⟩ = some (.bool false) := (blk_cell BK264.out 2).trans rfl
                   have hfz68_0 := blk_frozen BK264.out 0
                   have hfz68_1 := blk_frozen BK264.out 1
                   have hfz68_2 := blk_frozen BK264.out 2
                   go_wp2
                   refine bodyPost_ret (results_cell_row rfl _ _ gb264 44 #[.int .i64 (wrap64 ((wrap64 ((wrap64 (t265 * 3600)) + (wrap64 (t267 * 60)))) + t269)), .bool true, .bool (decide (t269 < 60))] (0, 0) _ rfl (by (with_reducible repeat (first | refine n_ ?_ _ | refine d_ ?_ | refine a_ ?_ _)); refine blk_put (cs := #[.int .i64 (wrap64 ((wrap64 ((wrap64 (t265 * 3600)) + (wrap64 (t267 * 60)))) + t269)), .bool true, .bool false]) ?_ 2 _ rfl; (with_reducible repeat (first | refine n_ ?_ _ | refine d_ ?_ | refine a_ ?_ _)); refine blk_put (cs := #[.int .i64 (wrap64 ((wrap64 ((wrap64 (t265 * 3600)) + (wrap64 (t267 * 60)))) + t269)), .bool false, .bool false]) ?_ 1 _ rfl; (with_reducible repeat (first | refine n_ ?_ _ | refine d_ ?_ | refine a_ ?_ _)); refine blk_put (cs := #[.int .i64 0, .bool false, .bool false]) ?_ 0 _ rfl; (with_reducible repeat (first | refine n_ ?_ _ | refine d_ ?_ | refine a_ ?_ _)); exact BK264.out) Try.underlying44 rfl (by kernel_rfl)) rfl ?_
                   exact ⟨by first | rfl | (simp [errW_none, errW_some] <;> rfl) | (simp only [← hji32, ← hji36, ← hji41, ← hji46]; first | rfl | (simp [errW_none, errW_some] <;> rfl)) | (simp [*, errW_none, errW_some] <;> rfl), by repeat (first | (with_reducible first | exact HB.out | apply ba | apply bn | apply bd | refine bs ?_ GE264.out) | exact HB.out)⟩
                  ·rw [if_neg c67] at H
                   have c67b0 : decide (t267 < 60) = false := decide_eq_false c67
                   clear c67
                   simp only [Option.some.injEq, Prod.mk.injEq] at H
                   obtain ⟨rfl, rfl, rfl⟩ := H
                   have hcz69_0 : wc.cell? ⟨gb264, 0, none⟩ = some (.int .i64 0) := (blk_cell BK264.out 0).trans rfl
                   have hcz69_1 : wc.cell? ⟨gb264, 1, none⟩ = some (.bool false) := (blk_cell BK264.out 1).trans rfl
                   have hcz69_2 : wc.cell? ⟨gb264, 2, none⟩ = some (.bool false) := (blk_cell BK264.out 2).trans rfl
                   have hfz69_0 := blk_frozen BK264.out 0
                   have hfz69_1 := blk_frozen BK264.out 1
                   have hfz69_2 := blk_frozen BK264.out 2
                   go_wp2
                   refine bodyPost_ret (results_cell_row rfl _ _ gb264 44 #[.int .i64 (wrap64 ((wrap64 ((wrap64 (t265 * 3600)) + (wrap64 (t267 * 60)))) + t269)), .bool true, .bool false] (0, 0) _ rfl (by (with_reducible repeat (first | refine n_ ?_ _ | refine d_ ?_ | refine a_ ?_ _)); refine blk_put (cs := #[.int .i64 (wrap64 ((wrap64 ((wrap64 (t265 * 3600)) + (wrap64 (t267 * 60)))) + t269)), .bool true, .bool false]) ?_ 2 _ rfl; (with_reducible repeat (first | refine n_ ?_ _ | refine d_ ?_ | refine a_ ?_ _)); refine blk_put (cs := #[.int .i64 (wrap64 ((wrap64 ((wrap64 (t265 * 3600)) + (wrap64 (t267 * 60)))) + t269)), .bool false, .bool false]) ?_ 1 _ rfl; (with_reducible repeat (first | refine n_ ?_ _ | refine d_ ?_ | refine a_ ?_ _)); refine blk_put (cs := #[.int .i64 0, .bool false, .bool false]) ?_ 0 _ rfl; (with_reducible repeat (first | refine n_ ?_ _ | refine d_ ?_ | refine a_ ?_ _)); exact BK264.out) Try.underlying44 rfl (by kernel_rfl)) rfl ?_
                   exact ⟨by first | rfl | (simp [errW_none, errW_some] <;> rfl) | (simp only [← hji32, ← hji36, ← hji41, ← hji46]; first | rfl | (simp [errW_none, errW_some] <;> rfl)) | (simp [*, errW_none, errW_some] <;> rfl), by repeat (first | (with_reducible first | exact HB.out | apply ba | apply bn | apply bd | refine bs ?_ GE264.out) | exact HB.out)⟩
             ·rw [if_neg c48] at H
              exact absurd H (by simp)
            ·rw [if_neg c47] at H
             exact absurd H (by simp)
           ·rw [if_neg c44] at H
            exact absurd H (by simp)
          ·rw [if_neg c43] at H
           exact absurd H (by simp)
         ·rw [if_neg c42] at H
          exact absurd H (by simp)
        ·rw [if_neg c39] at H
         exact absurd H (by simp)
       ·rw [if_neg c38] at H
        exact absurd H (by simp)
      ·rw [if_neg c37] at H
       exact absurd H (by simp)
     ·rw [if_neg c34] at H
      exact absurd H (by simp)
    ·rw [if_neg c33] at H
     exact absurd H (by simp)

end Go.Proofs.Yteojklacaecmpaa.P
