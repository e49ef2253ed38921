-- Written by wip/tools/xprint.py (this session's program, over the kit's print.py) for this seat.
import Derived.Test.YteojklacaecmpaaPx0
import Derived.Test.YteojklacaecmpaaPx2
namespace Go.Proofs.Yteojklacaecmpaa.P
open Go.RowKit Go.Proofs.YteojklacaecmpaaW.PrintWords Go.Proofs.YteojklacaecmpaaW.PrintLast Go.Proofs.YteojklacaecmpaaW.PrintMore
attribute [local go_sem] max2_int min2_int max_two min_two max_three min_three max_four min_four   -- for this text's walks alone
set_option linter.unusedVariables false
set_option linter.unusedSimpArgs false

/-! ### sphere_decimal: function 37 -/
def sphere_decimal.l0 : Nat → Int → List Int → Int → Option (ByteArray)
 | 0, _, _, _ => none
 | k + 1, x1, x5, x6 => if x6 < (wrap64 (3 - x1)) then (if 0 ≤ x6 then (if x6 < (x5.length : Int) then (if (rd x5 x6) = 48 then (sphere_decimal.l0 k x1 x5 (wrap64 (x6 + 1))) else (if x6 ≤ (x5.length : Int) then (some (strOfNums (x5.drop (x6 : Int).toNat))) else (none))) else (none)) else (none)) else (if 0 ≤ x6 then (if x6 ≤ (x5.length : Int) then (some (strOfNums (x5.drop (x6 : Int).toNat))) else (none)) else (none))
def sphere_decimal.f (k : Nat) (a0 : Int) (a1 : Int) : Option (ByteArray) := sphere_decimal.l0 k a1 (([(wrap64 (48 + (wrap64 (Int.tdiv a0 100)))) % 256, (wrap64 (48 + (Int.tmod (wrap64 (Int.tdiv a0 10)) 10))) % 256, (wrap64 (48 + (Int.tmod a0 10))) % 256] : List Int)) 0
theorem sphere_decimal.mono_l : ∀ k, (∀ y0 y1 y2, LeO (sphere_decimal.l0 k y0 y1 y2) (sphere_decimal.l0 (k + 1) y0 y1 y2))
 | 0 => fun _ _ _ r h => by simp [sphere_decimal.l0] at h
 | k + 1 => by
  have ih0 := sphere_decimal.mono_l k
  ·intro y0 y1 y2
   unfold sphere_decimal.l0
   repeat' first
   | (with_reducible exact ih0 _ _ _)
   | (with_reducible exact LeO.refl _)
   | (with_reducible exact LeO.none _)
   | (with_reducible refine LeO.ite ?_ ?_)
   | (with_reducible refine LeO.bind ?_ (fun _ => ?_))
   | exact ih0 _ _ _
   | exact LeO.none _
   | refine LeO.ite ?_ ?_
   | refine LeO.bind ?_ (fun _ => ?_)
theorem sphere_decimal.mono : ∀ a0 a1 k, LeO (sphere_decimal.f k a0 a1) (sphere_decimal.f (k + 1) a0 a1) := by
 intro a0 a1 k
 have ih0 := sphere_decimal.mono_l k
 unfold sphere_decimal.f
 repeat' first
   | (with_reducible exact ih0 _ _ _)
   | (with_reducible exact LeO.refl _)
   | (with_reducible exact LeO.none _)
   | (with_reducible refine LeO.ite ?_ ?_)
   | (with_reducible refine LeO.bind ?_ (fun _ => ?_))
   | exact ih0 _ _ _
   | exact LeO.none _
   | refine LeO.ite ?_ ?_
   | refine LeO.bind ?_ (fun _ => ?_)
set_option maxHeartbeats 8000000 in
set_option maxRecDepth 100000 in
theorem sphere_decimal.calls (k : Nat) (a0 : Int) (a1 : Int) (r : ByteArray) (w : World) (h : sphere_decimal.f k a0 a1 = some r) :
  Calls Try.prog 37 #[.int .i64 a0, .int .i64 a1] w fun e w' => e = .returned (.string r) ∧ Below w.heap.size w w' := by
 have HB := Aside0.mk (Below.refl w.heap.size w)
 have H : (sphere_decimal.l0 k a1 (([(wrap64 (48 + (wrap64 (Int.tdiv a0 100)))) % 256, (wrap64 (48 + (Int.tmod (wrap64 (Int.tdiv a0 10)) 10))) % 256, (wrap64 (48 + (Int.tmod a0 10))) % 256] : List Int)) 0) = some r := h
 clear h
 obtain ⟨y151, hy151⟩ : ∃ y_ : List Int, y_ = (([(wrap64 (48 + (wrap64 (Int.tdiv a0 100)))) % 256, (wrap64 (48 + (Int.tmod (wrap64 (Int.tdiv a0 10)) 10))) % 256, (wrap64 (48 + (Int.tmod a0 10))) % 256] : List Int)) := ⟨_, rfl⟩
 replace H : (sphere_decimal.l0 k a1 y151 0) = some r := by first | (rw [hy151]; with_reducible exact H) | (have H2_ := (Option.bind_some _ _).symm.trans H; rw [hy151]; with_reducible exact H2_) | (have H2_ := (Option.bind_some _ _).symm.trans H; with_reducible exact H2_) | with_reducible exact H | (rw [hy151]; exact H) | exact H
 have Ny151 := Aside0.mk hy151
 clear hy151
 have H' := Aside0.mk H
 clear H
 go_enter Try.func37, Try.ntmps37
 go_wp2_with (first | ((with_reducible refine gate_dst (N := 20) rfl ?_); refine Kd.R_lit (Kd.int .u8) _ 5 ?hg (N := 20) ?hd (xs := ([(wrap64 (48 + (wrap64 (Int.tdiv a0 100)))) % 256, (wrap64 (48 + (Int.tmod (wrap64 (Int.tdiv a0 10)) 10))) % 256, (wrap64 (48 + (Int.tmod a0 10))) % 256] : List Int)) (inner := [.int .u8 ((wrap64 (48 + (wrap64 (Int.tdiv a0 100)))) % 256), .int .u8 ((wrap64 (48 + (Int.tmod (wrap64 (Int.tdiv a0 10)) 10))) % 256), .int .u8 ((wrap64 (48 + (Int.tmod a0 10))) % 256)]) (ok := fun _ => True) (okp := fun _ => True) ?hr ?hp (fun _ hk => hk) trivial (Below.refl _ _) (Nat.le_refl _) (by simp) ?_; (case hd => rfl); (case hg => rfl); (case hr => first | (go_simp; done) | (go_simp; rfl)); (case hp => exact (Reps.one (show Kd.M (Kd.int .u8) _ _ _ ((wrap64 (48 + (wrap64 (Int.tdiv a0 100)))) % 256) [.int .u8 ((wrap64 (48 + (wrap64 (Int.tdiv a0 100)))) % 256)] from rfl) (Reps.one (show Kd.M (Kd.int .u8) _ _ _ ((wrap64 (48 + (Int.tmod (wrap64 (Int.tdiv a0 10)) 10))) % 256) [.int .u8 ((wrap64 (48 + (Int.tmod (wrap64 (Int.tdiv a0 10)) 10))) % 256)] from rfl) (Reps.one (show Kd.M (Kd.int .u8) _ _ _ ((wrap64 (48 + (Int.tmod a0 10))) % 256) [.int .u8 ((wrap64 (48 + (Int.tmod a0 10))) % 256)] from rfl) (Reps.none _ _))))); intro v152 w3 ho4 hb hg_ hnew_; clear hg_ hnew_; (first | rw [← Ny151.out] at ho4 | (simp only [Int.reduceToNat] at ho4; rw [← Ny151.out] at ho4)); have n0_ := Aside0.mk (Kd.R_lower ho4 (below_size (by with_reducible repeat first | exact HB.out | apply ba | apply bn | apply bd))); have n1_ := Aside0.mk (below_step (by with_reducible repeat first | exact HB.out | apply ba | apply bn | apply bd) hb); clear HB; have HO153 := n0_; have HB := n1_; clear n0_ n1_; clear hb ho4))
 go_loopg [6] k (fun kq v6 w' => ∃ (x6_1 : Int), v6 = .int .i64 x6_1 ∧ Aside0 (sphere_decimal.l0 kq a1 y151 x6_1 = some r) ∧ Aside0 (kq ≤ k) ∧ Aside0 (Kd.R (Kd.int .u8) 5 w' w.heap.size (fun _ => True) v152 y151) ∧ Aside0 (Below w.heap.size w w'))
 case atStart => exact ⟨(0), (by first | rfl | (simp; done) | (simp [*]; done)), H', ⟨Nat.le_refl _⟩, ⟨by (with_reducible repeat (first | apply Kd.R_alloc | apply Kd.R_drewN | apply Kd.R_drew)); exact HO153.out⟩, ⟨by with_reducible repeat first | exact HB.out | apply ba | apply bn | apply bd⟩⟩
 case round =>
  clear H'
  try clear p2
  try clear c3
  obtain ⟨x6_1, rfl, HA, HK1, HO_5, HB⟩ := hrel
  cases gk with
  | zero => exact absurd HA.out (by simp [sphere_decimal.l0])
  | succ k1 =>
   have H := HA.out
   clear HA
   simp only [sphere_decimal.l0] at H
   by_cases c5 : x6_1 < (wrap64 (3 - a1))
   ·rw [if_pos c5] at H
    have c5b0 : decide (x6_1 < (wrap64 (3 - a1))) = true := decide_eq_true c5
    clear c5
    by_cases c6 : 0 ≤ x6_1
    ·rw [if_pos c6] at H
     have c6b0 : decide (0 ≤ x6_1) = true := decide_eq_true c6
     clear c6
     by_cases c7 : x6_1 < (y151.length : Int)
     ·rw [if_pos c7] at H
      have c7b0 : decide (x6_1 < (y151.length : Int)) = true := decide_eq_true c7
      clear c7
      by_cases c8 : (rd y151 x6_1) = 48
      ·rw [if_pos c8] at H
       have c8b0 : ((rd y151 x6_1) == 48) = true := beq_iff_eq.mpr c8
       have c8b1 : ((rd y151 x6_1) != 48) = false := bne_eq_false_iff_eq.mpr c8
       clear c8
       have H' := Aside0.mk H
       clear H
       obtain ⟨Ao9, co9, eo9⟩ := Kd.R_slice HO_5.out
       subst eo9
       have p154 : 0 ≤ (x6_1 : Int) := of_decide_eq_true (by first | (with_reducible assumption) | assumption)
       have q154 : x6_1 < (y151.length : Int) := of_decide_eq_true (by first | (with_reducible assumption) | assumption)
       obtain ⟨ad154, e154, hx154_0⟩ := Kd.at_int (Kd.R_reads' HO_5.out).2.2 x6_1 p154 q154
       cases e154
       replace p154 := eq_true p154
       replace q154 := eq_true q154
       go_wp2
       go_roundg k1
       case measure => have := HK1.out; omega
       case rel => exact ⟨(wrap64 (x6_1 + 1)), (by first | rfl | (simp; done) | (simp [*]; done)), H', ⟨by have := HK1.out; omega⟩, ⟨by (with_reducible repeat (first | apply Kd.R_alloc | apply Kd.R_drewN | apply Kd.R_drew)); exact HO_5.out⟩, ⟨by with_reducible repeat first | exact HB.out | apply ba | apply bn | apply bd⟩⟩
      ·rw [if_neg c8] at H
       have c8b0 : ((rd y151 x6_1) == 48) = false := beq_eq_false_iff_ne.mpr c8
       have c8b1 : ((rd y151 x6_1) != 48) = true := bne_iff_ne.mpr c8
       have c10b0 := eq_true (of_decide_eq_true (by first | (with_reducible assumption) | assumption) : 0 ≤ x6_1)
       by_cases c11 : x6_1 ≤ (y151.length : Int)
       ·rw [if_pos c11] at H
        have c11b0 := eq_true c11
        have c11b1 : decide (x6_1 ≤ (y151.length : Int)) = true := decide_eq_true c11
        clear c11
        obtain ⟨y155, hy155⟩ : ∃ y_ : List Int, y_ = (y151.drop (x6_1 : Int).toNat) := ⟨_, rfl⟩
        replace H : (some (strOfNums y155)) = some r := by first | (rw [hy155]; with_reducible exact H) | (have H2_ := (Option.bind_some _ _).symm.trans H; rw [hy155]; with_reducible exact H2_) | (have H2_ := (Option.bind_some _ _).symm.trans H; with_reducible exact H2_) | with_reducible exact H | (rw [hy155]; exact H) | exact H
        have Ny155 := Aside0.mk hy155
        clear hy155
        obtain rfl := Option.some.inj H
        obtain ⟨Ao12, co12, eo12⟩ := Kd.R_slice HO_5.out
        subst eo12
        have p154 : 0 ≤ (x6_1 : Int) := of_decide_eq_true (by first | (with_reducible assumption) | assumption)
        have q154 : x6_1 < (y151.length : Int) := of_decide_eq_true (by first | (with_reducible assumption) | assumption)
        obtain ⟨ad154, e154, hx154_0⟩ := Kd.at_int (Kd.R_reads' HO_5.out).2.2 x6_1 p154 q154
        cases e154
        replace p154 := eq_true p154
        replace q154 := eq_true q154
        have q13 : (x6_1 : Int) ≤ ((y151.length : Int) : Int) := of_decide_eq_true (by first | (with_reducible assumption) | assumption)
        obtain ⟨i013, hi013, _, hsz13, _⟩ := info_parts info5
        have hroom13 : y151.length ≤ co12 := (Kd.R_reads' HO_5.out).2.1
        have hC13 : Kd.C (Kd.int .u8) _ (some ad154) y151.length y151 := (Kd.R_reads' HO_5.out).2.2
        have q013 : (0 : Int) ≤ (x6_1 : Int) := of_decide_eq_true (by first | (with_reducible assumption) | assumption)
        have hcut13 := cut_from (P := Try.prog) 63 5 .i64 Try.underlying63 hi013 1 hsz13 (some ad154) y151.length co12 x6_1 q013 q13
        have hr13 := Kd.C_drop (m := (x6_1 : Int).toNat) (c := co12) hC13 (by omega) hroom13
        obtain ⟨A13, hA13⟩ : ∃ A1, A1 = (if co12 = (x6_1 : Int).toNat then (some ad154) else ((some ad154) : Option Addr).map (·.add ((x6_1 : Int).toNat * 1))) := ⟨_, rfl⟩
        obtain ⟨c13, hc13⟩ : ∃ c1, c1 = co12 - (x6_1 : Int).toNat := ⟨_, rfl⟩
        have hy13 : y155.length = y151.length - (x6_1 : Int).toNat := (by rw [Ny155.out, List.length_drop] <;> omega)
        rw [show (y151).drop (x6_1 : Int).toNat = y155 from Ny155.out.symm] at hr13
        replace hr13 : Kd.C (Kd.int .u8) _ A13 y155.length y155 := (by rw [hA13]; exact hr13)
        rw [← hy13, ← hA13, ← hc13] at hcut13
        have HR158 := Aside0.mk hr13
        have HC158 := Aside0.mk (show y155.length ≤ c13 from by rw [hy13, hc13]; exact Nat.sub_le_sub_right hroom13 _)
        clear hr13 hC13 hroom13 hi013 hsz13 hc13
        have KY13 := Aside0.mk hy13
        have KA13 := Aside0.mk hA13
        clear hy13 hA13
        have KL13 := Aside0.mk (show (x6_1 : Int).toNat ≤ y151.length from by omega)
        replace q13 := eq_true q13
        have hcv14 := Kd.C_string (P := Try.prog) (A := A13) (c := c13) Try.underlying63 Try.underlying5 Try.underlying9 (by repeat (first | (with_reducible exact HR158.out) | (with_reducible refine Kd.C_alloc ?_ _) | (with_reducible refine Kd.C_drewN ?_ _) | (with_reducible refine Kd.C_drew ?_) | exact HR158.out))
        go_wp2
        go_ret
        exact ⟨by first | rfl | (simp [errW_none, errW_some] <;> rfl) | (simp [*, errW_none, errW_some] <;> rfl), by with_reducible repeat first | exact HB.out | apply ba | apply bn | apply bd⟩
       ·rw [if_neg c11] at H
        exact absurd H (by simp)
     ·rw [if_neg c7] at H
      exact absurd H (by simp)
    ·rw [if_neg c6] at H
     exact absurd H (by simp)
   ·rw [if_neg c5] at H
    have c5b0 : decide (x6_1 < (wrap64 (3 - a1))) = false := decide_eq_false c5
    clear c5
    by_cases c15 : 0 ≤ x6_1
    ·rw [if_pos c15] at H
     have c15b0 := eq_true c15
     have c15b1 : decide (0 ≤ x6_1) = true := decide_eq_true c15
     clear c15
     by_cases c16 : x6_1 ≤ (y151.length : Int)
     ·rw [if_pos c16] at H
      have c16b0 := eq_true c16
      have c16b1 : decide (x6_1 ≤ (y151.length : Int)) = true := decide_eq_true c16
      clear c16
      obtain ⟨y159, hy159⟩ : ∃ y_ : List Int, y_ = (y151.drop (x6_1 : Int).toNat) := ⟨_, rfl⟩
      replace H : (some (strOfNums y159)) = some r := by first | (rw [hy159]; with_reducible exact H) | (have H2_ := (Option.bind_some _ _).symm.trans H; rw [hy159]; with_reducible exact H2_) | (have H2_ := (Option.bind_some _ _).symm.trans H; with_reducible exact H2_) | with_reducible exact H | (rw [hy159]; exact H) | exact H
      have Ny159 := Aside0.mk hy159
      clear hy159
      obtain rfl := Option.some.inj H
      obtain ⟨Ao18, co18, eo18⟩ := Kd.R_slice HO_5.out
      subst eo18
      have q17 : (x6_1 : Int) ≤ ((y151.length : Int) : Int) := of_decide_eq_true (by first | (with_reducible assumption) | assumption)
      obtain ⟨i017, hi017, _, hsz17, _⟩ := info_parts info5
      have hroom17 : y151.length ≤ co18 := (Kd.R_reads' HO_5.out).2.1
      have hC17 : Kd.C (Kd.int .u8) _ Ao18 y151.length y151 := (Kd.R_reads' HO_5.out).2.2
      have q017 : (0 : Int) ≤ (x6_1 : Int) := of_decide_eq_true (by first | (with_reducible assumption) | assumption)
      have hcut17 := cut_from (P := Try.prog) 63 5 .i64 Try.underlying63 hi017 1 hsz17 Ao18 y151.length co18 x6_1 q017 q17
      have hr17 := Kd.C_drop (m := (x6_1 : Int).toNat) (c := co18) hC17 (by omega) hroom17
      obtain ⟨A17, hA17⟩ : ∃ A1, A1 = (if co18 = (x6_1 : Int).toNat then Ao18 else (Ao18 : Option Addr).map (·.add ((x6_1 : Int).toNat * 1))) := ⟨_, rfl⟩
      obtain ⟨c17, hc17⟩ : ∃ c1, c1 = co18 - (x6_1 : Int).toNat := ⟨_, rfl⟩
      have hy17 : y159.length = y151.length - (x6_1 : Int).toNat := (by rw [Ny159.out, List.length_drop] <;> omega)
      rw [show (y151).drop (x6_1 : Int).toNat = y159 from Ny159.out.symm] at hr17
      replace hr17 : Kd.C (Kd.int .u8) _ A17 y159.length y159 := (by rw [hA17]; exact hr17)
      rw [← hy17, ← hA17, ← hc17] at hcut17
      have HR162 := Aside0.mk hr17
      have HC162 := Aside0.mk (show y159.length ≤ c17 from by rw [hy17, hc17]; exact Nat.sub_le_sub_right hroom17 _)
      clear hr17 hC17 hroom17 hi017 hsz17 hc17
      have KY17 := Aside0.mk hy17
      have KA17 := Aside0.mk hA17
      clear hy17 hA17
      have KL17 := Aside0.mk (show (x6_1 : Int).toNat ≤ y151.length from by omega)
      replace q17 := eq_true q17
      have hcv19 := Kd.C_string (P := Try.prog) (A := A17) (c := c17) Try.underlying63 Try.underlying5 Try.underlying9 (by repeat (first | (with_reducible exact HR162.out) | (with_reducible refine Kd.C_alloc ?_ _) | (with_reducible refine Kd.C_drewN ?_ _) | (with_reducible refine Kd.C_drew ?_) | exact HR162.out))
      go_wp2
      go_ret
      exact ⟨by first | rfl | (simp [errW_none, errW_some] <;> rfl) | (simp [*, errW_none, errW_some] <;> rfl), by with_reducible repeat first | exact HB.out | apply ba | apply bn | apply bd⟩
     ·rw [if_neg c16] at H
      exact absurd H (by simp)
    ·rw [if_neg c15] at H
     exact absurd H (by simp)

/-! ### sphere_text: function 26 -/
def sphere_text.f (k : Nat) (a0 : Int) (a1 : ByteArray) : Option (ByteArray) := if 0 ≤ 1 then (if 1 ≤ (a1.size : Int) then (if a0 < 0 then ((sphere_decimal.f k (wrap64 (Int.tdiv (wrap64 (-a0)) 3600)) 1).bind fun t163 => (if t163.size + 1 ≤ 9223372036854775807 then ((sphere_decimal.f k (Int.tmod (wrap64 (Int.tdiv (wrap64 (-a0)) 60)) 60) 2).bind fun t164 => (if (t163 ++ (⟨#[45]⟩ : ByteArray)).size + t164.size ≤ 9223372036854775807 then (if ((t163 ++ (⟨#[45]⟩ : ByteArray)) ++ t164).size + 1 ≤ 9223372036854775807 then ((sphere_decimal.f k (Int.tmod (wrap64 (-a0)) 60) 2).bind fun t165 => (if (((t163 ++ (⟨#[45]⟩ : ByteArray)) ++ t164) ++ (⟨#[45]⟩ : ByteArray)).size + t165.size ≤ 9223372036854775807 then (if ((((t163 ++ (⟨#[45]⟩ : ByteArray)) ++ t164) ++ (⟨#[45]⟩ : ByteArray)) ++ t165).size + (a1.extract 1 a1.size).size ≤ 9223372036854775807 then (some (((((t163 ++ (⟨#[45]⟩ : ByteArray)) ++ t164) ++ (⟨#[45]⟩ : ByteArray)) ++ t165) ++ (a1.extract 1 a1.size))) else (none)) else (none))) else (none)) else (none))) else (none))) else ((sphere_decimal.f k (wrap64 (Int.tdiv a0 3600)) 1).bind fun t166 => (if t166.size + 1 ≤ 9223372036854775807 then ((sphere_decimal.f k (Int.tmod (wrap64 (Int.tdiv a0 60)) 60) 2).bind fun t167 => (if (t166 ++ (⟨#[45]⟩ : ByteArray)).size + t167.size ≤ 9223372036854775807 then (if ((t166 ++ (⟨#[45]⟩ : ByteArray)) ++ t167).size + 1 ≤ 9223372036854775807 then ((sphere_decimal.f k (Int.tmod a0 60) 2).bind fun t168 => (if (((t166 ++ (⟨#[45]⟩ : ByteArray)) ++ t167) ++ (⟨#[45]⟩ : ByteArray)).size + t168.size ≤ 9223372036854775807 then (if ((((t166 ++ (⟨#[45]⟩ : ByteArray)) ++ t167) ++ (⟨#[45]⟩ : ByteArray)) ++ t168).size + (a1.extract 0 1).size ≤ 9223372036854775807 then (some (((((t166 ++ (⟨#[45]⟩ : ByteArray)) ++ t167) ++ (⟨#[45]⟩ : ByteArray)) ++ t168) ++ (a1.extract 0 1))) else (none)) else (none))) else (none)) else (none))) else (none)))) else (none)) else (none)
theorem sphere_text.mono : ∀ a0 a1 k, LeO (sphere_text.f k a0 a1) (sphere_text.f (k + 1) a0 a1) := by
 intro a0 a1 k
 unfold sphere_text.f
 repeat' first
   | (with_reducible exact sphere_decimal.mono _ _ _)
   | (with_reducible exact LeO.refl _)
   | (with_reducible exact LeO.none _)
   | (with_reducible refine LeO.ite ?_ ?_)
   | (with_reducible refine LeO.bind ?_ (fun _ => ?_))
   | exact sphere_decimal.mono _ _ _
   | exact LeO.none _
   | refine LeO.ite ?_ ?_
   | refine LeO.bind ?_ (fun _ => ?_)
set_option maxHeartbeats 8000000 in
set_option maxRecDepth 100000 in
theorem sphere_text.calls (k : Nat) (a0 : Int) (a1 : ByteArray) (r : ByteArray) (w : World) (h : sphere_text.f k a0 a1 = some r) :
  Calls Try.prog 26 #[.int .i64 a0, .string a1] w fun e w' => e = .returned (.string r) ∧ Below w.heap.size w w' := by
 have HB := Aside0.mk (Below.refl w.heap.size w)
 have H : (if 0 ≤ 1 then (if 1 ≤ (a1.size : Int) then (if a0 < 0 then ((sphere_decimal.f k (wrap64 (Int.tdiv (wrap64 (-a0)) 3600)) 1).bind fun t163 => (if t163.size + 1 ≤ 9223372036854775807 then ((sphere_decimal.f k (Int.tmod (wrap64 (Int.tdiv (wrap64 (-a0)) 60)) 60) 2).bind fun t164 => (if (t163 ++ (⟨#[45]⟩ : ByteArray)).size + t164.size ≤ 9223372036854775807 then (if ((t163 ++ (⟨#[45]⟩ : ByteArray)) ++ t164).size + 1 ≤ 9223372036854775807 then ((sphere_decimal.f k (Int.tmod (wrap64 (-a0)) 60) 2).bind fun t165 => (if (((t163 ++ (⟨#[45]⟩ : ByteArray)) ++ t164) ++ (⟨#[45]⟩ : ByteArray)).size + t165.size ≤ 9223372036854775807 then (if ((((t163 ++ (⟨#[45]⟩ : ByteArray)) ++ t164) ++ (⟨#[45]⟩ : ByteArray)) ++ t165).size + (a1.extract 1 a1.size).size ≤ 9223372036854775807 then (some (((((t163 ++ (⟨#[45]⟩ : ByteArray)) ++ t164) ++ (⟨#[45]⟩ : ByteArray)) ++ t165) ++ (a1.extract 1 a1.size))) else (none)) else (none))) else (none)) else (none))) else (none))) else ((sphere_decimal.f k (wrap64 (Int.tdiv a0 3600)) 1).bind fun t166 => (if t166.size + 1 ≤ 9223372036854775807 then ((sphere_decimal.f k (Int.tmod (wrap64 (Int.tdiv a0 60)) 60) 2).bind fun t167 => (if (t166 ++ (⟨#[45]⟩ : ByteArray)).size + t167.size ≤ 9223372036854775807 then (if ((t166 ++ (⟨#[45]⟩ : ByteArray)) ++ t167).size + 1 ≤ 9223372036854775807 then ((sphere_decimal.f k (Int.tmod a0 60) 2).bind fun t168 => (if (((t166 ++ (⟨#[45]⟩ : ByteArray)) ++ t167) ++ (⟨#[45]⟩ : ByteArray)).size + t168.size ≤ 9223372036854775807 then (if ((((t166 ++ (⟨#[45]⟩ : ByteArray)) ++ t167) ++ (⟨#[45]⟩ : ByteArray)) ++ t168).size + (a1.extract 0 1).size ≤ 9223372036854775807 then (some (((((t166 ++ (⟨#[45]⟩ : ByteArray)) ++ t167) ++ (⟨#[45]⟩ : ByteArray)) ++ t168) ++ (a1.extract 0 1))) else (none)) else (none))) else (none)) else (none))) else (none)))) else (none)) else (none)) = some r := h
 clear h
 by_cases c3 : 0 ≤ 1
 ·rw [if_pos c3] at H
  have c3b0 := eq_true c3
  have c3b1 : decide (0 ≤ 1) = true := decide_eq_true c3
  clear c3
  by_cases c4 : 1 ≤ (a1.size : Int)
  ·rw [if_pos c4] at H
   have c4b0 := eq_true c4
   have c4b1 : decide (1 ≤ (a1.size : Int)) = true := decide_eq_true c4
   clear c4
   by_cases c5 : a0 < 0
   ·rw [if_pos c5] at H
    have c5b0 : decide (a0 < 0) = true := decide_eq_true c5
    clear c5
    have c6b0 := eq_true (of_decide_eq_true (by first | (with_reducible assumption) | assumption) : 1 ≤ (a1.size : Int))
    replace H := Option.bind_eq_some_iff.mp H
    obtain ⟨t163, A70, H⟩ := H
    replace H : (if t163.size + 1 ≤ 9223372036854775807 then ((sphere_decimal.f k (Int.tmod (wrap64 (Int.tdiv (wrap64 (-a0)) 60)) 60) 2).bind fun t164 => (if (t163 ++ (⟨#[45]⟩ : ByteArray)).size + t164.size ≤ 9223372036854775807 then (if ((t163 ++ (⟨#[45]⟩ : ByteArray)) ++ t164).size + 1 ≤ 9223372036854775807 then ((sphere_decimal.f k (Int.tmod (wrap64 (-a0)) 60) 2).bind fun t165 => (if (((t163 ++ (⟨#[45]⟩ : ByteArray)) ++ t164) ++ (⟨#[45]⟩ : ByteArray)).size + t165.size ≤ 9223372036854775807 then (if ((((t163 ++ (⟨#[45]⟩ : ByteArray)) ++ t164) ++ (⟨#[45]⟩ : ByteArray)) ++ t165).size + (a1.extract 1 a1.size).size ≤ 9223372036854775807 then (some (((((t163 ++ (⟨#[45]⟩ : ByteArray)) ++ t164) ++ (⟨#[45]⟩ : ByteArray)) ++ t165) ++ (a1.extract 1 a1.size))) else (none)) else (none))) else (none)) else (none))) else (none)) = some r := H
    have A7 := Aside0.mk A70
    clear A70
    by_cases c8 : t163.size + 1 ≤ 9223372036854775807
    ·rw [if_pos c8] at H
     have c8b0 := eq_true c8
     have c8b1 : decide (t163.size + 1 ≤ 9223372036854775807) = true := decide_eq_true c8
     try have c8b2 : (9223372036854775807 < t163.size + 1) = False := eq_false (Nat.not_lt.2 c8)
     replace H := Option.bind_eq_some_iff.mp H
     obtain ⟨t164, A90, H⟩ := H
     replace H : (if (t163 ++ (⟨#[45]⟩ : ByteArray)).size + t164.size ≤ 9223372036854775807 then (if ((t163 ++ (⟨#[45]⟩ : ByteArray)) ++ t164).size + 1 ≤ 9223372036854775807 then ((sphere_decimal.f k (Int.tmod (wrap64 (-a0)) 60) 2).bind fun t165 => (if (((t163 ++ (⟨#[45]⟩ : ByteArray)) ++ t164) ++ (⟨#[45]⟩ : ByteArray)).size + t165.size ≤ 9223372036854775807 then (if ((((t163 ++ (⟨#[45]⟩ : ByteArray)) ++ t164) ++ (⟨#[45]⟩ : ByteArray)) ++ t165).size + (a1.extract 1 a1.size).size ≤ 9223372036854775807 then (some (((((t163 ++ (⟨#[45]⟩ : ByteArray)) ++ t164) ++ (⟨#[45]⟩ : ByteArray)) ++ t165) ++ (a1.extract 1 a1.size))) else (none)) else (none))) else (none)) else (none)) = some r := H
     have A9 := Aside0.mk A90
     clear A90
     by_cases c10 : (t163 ++ (⟨#[45]⟩ : ByteArray)).size + t164.size ≤ 9223372036854775807
     ·rw [if_pos c10] at H
      have c10b0 := eq_true c10
      have c10b1 : decide ((t163 ++ (⟨#[45]⟩ : ByteArray)).size + t164.size ≤ 9223372036854775807) = true := decide_eq_true c10
      try have c10b2 : (9223372036854775807 < (t163 ++ (⟨#[45]⟩ : ByteArray)).size + t164.size) = False := eq_false (Nat.not_lt.2 c10)
      try have c10b3 : (9223372036854775807 < t163.size + 1 + t164.size) = False := eq_false (by have h_ := Nat.not_lt.2 c10; simp only [ByteArray.size_append] at h_; exact h_)
      by_cases c11 : ((t163 ++ (⟨#[45]⟩ : ByteArray)) ++ t164).size + 1 ≤ 9223372036854775807
      ·rw [if_pos c11] at H
       have c11b0 := eq_true c11
       have c11b1 : decide (((t163 ++ (⟨#[45]⟩ : ByteArray)) ++ t164).size + 1 ≤ 9223372036854775807) = true := decide_eq_true c11
       try have c11b2 : (9223372036854775807 < ((t163 ++ (⟨#[45]⟩ : ByteArray)) ++ t164).size + 1) = False := eq_false (Nat.not_lt.2 c11)
       try have c11b3 : (9223372036854775807 < t163.size + 1 + t164.size + 1) = False := eq_false (by have h_ := Nat.not_lt.2 c11; simp only [ByteArray.size_append] at h_; exact h_)
       replace H := Option.bind_eq_some_iff.mp H
       obtain ⟨t165, A120, H⟩ := H
       replace H : (if (((t163 ++ (⟨#[45]⟩ : ByteArray)) ++ t164) ++ (⟨#[45]⟩ : ByteArray)).size + t165.size ≤ 9223372036854775807 then (if ((((t163 ++ (⟨#[45]⟩ : ByteArray)) ++ t164) ++ (⟨#[45]⟩ : ByteArray)) ++ t165).size + (a1.extract 1 a1.size).size ≤ 9223372036854775807 then (some (((((t163 ++ (⟨#[45]⟩ : ByteArray)) ++ t164) ++ (⟨#[45]⟩ : ByteArray)) ++ t165) ++ (a1.extract 1 a1.size))) else (none)) else (none)) = some r := H
       have A12 := Aside0.mk A120
       clear A120
       by_cases c13 : (((t163 ++ (⟨#[45]⟩ : ByteArray)) ++ t164) ++ (⟨#[45]⟩ : ByteArray)).size + t165.size ≤ 9223372036854775807
       ·rw [if_pos c13] at H
        have c13b0 := eq_true c13
        have c13b1 : decide ((((t163 ++ (⟨#[45]⟩ : ByteArray)) ++ t164) ++ (⟨#[45]⟩ : ByteArray)).size + t165.size ≤ 9223372036854775807) = true := decide_eq_true c13
        try have c13b2 : (9223372036854775807 < (((t163 ++ (⟨#[45]⟩ : ByteArray)) ++ t164) ++ (⟨#[45]⟩ : ByteArray)).size + t165.size) = False := eq_false (Nat.not_lt.2 c13)
        try have c13b3 : (9223372036854775807 < t163.size + 1 + t164.size + 1 + t165.size) = False := eq_false (by have h_ := Nat.not_lt.2 c13; simp only [ByteArray.size_append] at h_; exact h_)
        by_cases c14 : ((((t163 ++ (⟨#[45]⟩ : ByteArray)) ++ t164) ++ (⟨#[45]⟩ : ByteArray)) ++ t165).size + (a1.extract 1 a1.size).size ≤ 9223372036854775807
        ·rw [if_pos c14] at H
         have c14b0 := eq_true c14
         have c14b1 : decide (((((t163 ++ (⟨#[45]⟩ : ByteArray)) ++ t164) ++ (⟨#[45]⟩ : ByteArray)) ++ t165).size + (a1.extract 1 a1.size).size ≤ 9223372036854775807) = true := decide_eq_true c14
         try have c14b2 : (9223372036854775807 < ((((t163 ++ (⟨#[45]⟩ : ByteArray)) ++ t164) ++ (⟨#[45]⟩ : ByteArray)) ++ t165).size + (a1.extract 1 a1.size).size) = False := eq_false (Nat.not_lt.2 c14)
         try have c14b3 : (9223372036854775807 < t163.size + 1 + t164.size + 1 + t165.size + (a1.extract 1 a1.size).size) = False := eq_false (by have h_ := Nat.not_lt.2 c14; simp only [ByteArray.size_append] at h_; exact h_)
         obtain rfl := Option.some.inj H
         go_enter Try.func26, Try.ntmps26
         go_wp2_with (first | (go_at_call 37; (with_reducible refine (sphere_decimal.calls k (wrap64 (Int.tdiv (wrap64 (-a0)) 3600)) 1 t163 _ A7.out).mono ?_); rintro e w15 ⟨rfl, hb⟩; have n0_ := Aside0.mk (below_step (by with_reducible repeat first | exact HB.out | apply ba | apply bn | apply bd) hb); clear HB; have HB := n0_; clear n0_; (try clear hb); (try clear hb2); (try clear hk); (try clear hi)) | (go_at_call 37; (with_reducible refine (sphere_decimal.calls k (Int.tmod (wrap64 (Int.tdiv (wrap64 (-a0)) 60)) 60) 2 t164 _ A9.out).mono ?_); rintro e w16 ⟨rfl, hb⟩; have n0_ := Aside0.mk (below_step (by with_reducible repeat first | exact HB.out | apply ba | apply bn | apply bd) hb); clear HB; have HB := n0_; clear n0_; (try clear hb); (try clear hb2); (try clear hk); (try clear hi)) | (go_at_call 37; (with_reducible refine (sphere_decimal.calls k (Int.tmod (wrap64 (-a0)) 60) 2 t165 _ A12.out).mono ?_); rintro e w17 ⟨rfl, hb⟩; have n0_ := Aside0.mk (below_step (by with_reducible repeat first | exact HB.out | apply ba | apply bn | apply bd) hb); clear HB; have HB := n0_; clear n0_; (try clear hb); (try clear hb2); (try clear hk); (try clear hi)))
         repeat (go_quiet (first | (go_at_call 37; (with_reducible refine (sphere_decimal.calls k (wrap64 (Int.tdiv (wrap64 (-a0)) 3600)) 1 t163 _ A7.out).mono ?_); rintro e w15 ⟨rfl, hb⟩; have n0_ := Aside0.mk (below_step (by with_reducible repeat first | exact HB.out | apply ba | apply bn | apply bd) hb); clear HB; have HB := n0_; clear n0_; (try clear hb); (try clear hb2); (try clear hk); (try clear hi)) | (go_at_call 37; (with_reducible refine (sphere_decimal.calls k (Int.tmod (wrap64 (Int.tdiv (wrap64 (-a0)) 60)) 60) 2 t164 _ A9.out).mono ?_); rintro e w16 ⟨rfl, hb⟩; have n0_ := Aside0.mk (below_step (by with_reducible repeat first | exact HB.out | apply ba | apply bn | apply bd) hb); clear HB; have HB := n0_; clear n0_; (try clear hb); (try clear hb2); (try clear hk); (try clear hi)) | (go_at_call 37; (with_reducible refine (sphere_decimal.calls k (Int.tmod (wrap64 (-a0)) 60) 2 t165 _ A12.out).mono ?_); rintro e w17 ⟨rfl, hb⟩; have n0_ := Aside0.mk (below_step (by with_reducible repeat first | exact HB.out | apply ba | apply bn | apply bd) hb); clear HB; have HB := n0_; clear n0_; (try clear hb); (try clear hb2); (try clear hk); (try clear hi))); try go_wp2_with (first | (go_at_call 37; (with_reducible refine (sphere_decimal.calls k (wrap64 (Int.tdiv (wrap64 (-a0)) 3600)) 1 t163 _ A7.out).mono ?_); rintro e w15 ⟨rfl, hb⟩; have n0_ := Aside0.mk (below_step (by with_reducible repeat first | exact HB.out | apply ba | apply bn | apply bd) hb); clear HB; have HB := n0_; clear n0_; (try clear hb); (try clear hb2); (try clear hk); (try clear hi)) | (go_at_call 37; (with_reducible refine (sphere_decimal.calls k (Int.tmod (wrap64 (Int.tdiv (wrap64 (-a0)) 60)) 60) 2 t164 _ A9.out).mono ?_); rintro e w16 ⟨rfl, hb⟩; have n0_ := Aside0.mk (below_step (by with_reducible repeat first | exact HB.out | apply ba | apply bn | apply bd) hb); clear HB; have HB := n0_; clear n0_; (try clear hb); (try clear hb2); (try clear hk); (try clear hi)) | (go_at_call 37; (with_reducible refine (sphere_decimal.calls k (Int.tmod (wrap64 (-a0)) 60) 2 t165 _ A12.out).mono ?_); rintro e w17 ⟨rfl, hb⟩; have n0_ := Aside0.mk (below_step (by with_reducible repeat first | exact HB.out | apply ba | apply bn | apply bd) hb); clear HB; have HB := n0_; clear n0_; (try clear hb); (try clear hb2); (try clear hk); (try clear hi))))
         go_ret
         exact ⟨by first | rfl | (simp [errW_none, errW_some] <;> rfl) | (simp [*, errW_none, errW_some] <;> rfl), by with_reducible repeat first | exact HB.out | apply ba | apply bn | apply bd⟩
        ·rw [if_neg c14] at H
         exact absurd H (by simp)
       ·rw [if_neg c13] at H
        exact absurd H (by simp)
      ·rw [if_neg c11] at H
       exact absurd H (by simp)
     ·rw [if_neg c10] at H
      exact absurd H (by simp)
    ·rw [if_neg c8] at H
     exact absurd H (by simp)
   ·rw [if_neg c5] at H
    have c5b0 : decide (a0 < 0) = false := decide_eq_false c5
    clear c5
    replace H := Option.bind_eq_some_iff.mp H
    obtain ⟨t166, A180, H⟩ := H
    replace H : (if t166.size + 1 ≤ 9223372036854775807 then ((sphere_decimal.f k (Int.tmod (wrap64 (Int.tdiv a0 60)) 60) 2).bind fun t167 => (if (t166 ++ (⟨#[45]⟩ : ByteArray)).size + t167.size ≤ 9223372036854775807 then (if ((t166 ++ (⟨#[45]⟩ : ByteArray)) ++ t167).size + 1 ≤ 9223372036854775807 then ((sphere_decimal.f k (Int.tmod a0 60) 2).bind fun t168 => (if (((t166 ++ (⟨#[45]⟩ : ByteArray)) ++ t167) ++ (⟨#[45]⟩ : ByteArray)).size + t168.size ≤ 9223372036854775807 then (if ((((t166 ++ (⟨#[45]⟩ : ByteArray)) ++ t167) ++ (⟨#[45]⟩ : ByteArray)) ++ t168).size + (a1.extract 0 1).size ≤ 9223372036854775807 then (some (((((t166 ++ (⟨#[45]⟩ : ByteArray)) ++ t167) ++ (⟨#[45]⟩ : ByteArray)) ++ t168) ++ (a1.extract 0 1))) else (none)) else (none))) else (none)) else (none))) else (none)) = some r := H
    have A18 := Aside0.mk A180
    clear A180
    by_cases c19 : t166.size + 1 ≤ 9223372036854775807
    ·rw [if_pos c19] at H
     have c19b0 := eq_true c19
     have c19b1 : decide (t166.size + 1 ≤ 9223372036854775807) = true := decide_eq_true c19
     try have c19b2 : (9223372036854775807 < t166.size + 1) = False := eq_false (Nat.not_lt.2 c19)
     replace H := Option.bind_eq_some_iff.mp H
     obtain ⟨t167, A200, H⟩ := H
     replace H : (if (t166 ++ (⟨#[45]⟩ : ByteArray)).size + t167.size ≤ 9223372036854775807 then (if ((t166 ++ (⟨#[45]⟩ : ByteArray)) ++ t167).size + 1 ≤ 9223372036854775807 then ((sphere_decimal.f k (Int.tmod a0 60) 2).bind fun t168 => (if (((t166 ++ (⟨#[45]⟩ : ByteArray)) ++ t167) ++ (⟨#[45]⟩ : ByteArray)).size + t168.size ≤ 9223372036854775807 then (if ((((t166 ++ (⟨#[45]⟩ : ByteArray)) ++ t167) ++ (⟨#[45]⟩ : ByteArray)) ++ t168).size + (a1.extract 0 1).size ≤ 9223372036854775807 then (some (((((t166 ++ (⟨#[45]⟩ : ByteArray)) ++ t167) ++ (⟨#[45]⟩ : ByteArray)) ++ t168) ++ (a1.extract 0 1))) else (none)) else (none))) else (none)) else (none)) = some r := H
     have A20 := Aside0.mk A200
     clear A200
     by_cases c21 : (t166 ++ (⟨#[45]⟩ : ByteArray)).size + t167.size ≤ 9223372036854775807
     ·rw [if_pos c21] at H
      have c21b0 := eq_true c21
      have c21b1 : decide ((t166 ++ (⟨#[45]⟩ : ByteArray)).size + t167.size ≤ 9223372036854775807) = true := decide_eq_true c21
      try have c21b2 : (9223372036854775807 < (t166 ++ (⟨#[45]⟩ : ByteArray)).size + t167.size) = False := eq_false (Nat.not_lt.2 c21)
      try have c21b3 : (9223372036854775807 < t166.size + 1 + t167.size) = False := eq_false (by have h_ := Nat.not_lt.2 c21; simp only [ByteArray.size_append] at h_; exact h_)
      by_cases c22 : ((t166 ++ (⟨#[45]⟩ : ByteArray)) ++ t167).size + 1 ≤ 9223372036854775807
      ·rw [if_pos c22] at H
       have c22b0 := eq_true c22
       have c22b1 : decide (((t166 ++ (⟨#[45]⟩ : ByteArray)) ++ t167).size + 1 ≤ 9223372036854775807) = true := decide_eq_true c22
       try have c22b2 : (9223372036854775807 < ((t166 ++ (⟨#[45]⟩ : ByteArray)) ++ t167).size + 1) = False := eq_false (Nat.not_lt.2 c22)
       try have c22b3 : (9223372036854775807 < t166.size + 1 + t167.size + 1) = False := eq_false (by have h_ := Nat.not_lt.2 c22; simp only [ByteArray.size_append] at h_; exact h_)
       replace H := Option.bind_eq_some_iff.mp H
       obtain ⟨t168, A230, H⟩ := H
       replace H : (if (((t166 ++ (⟨#[45]⟩ : ByteArray)) ++ t167) ++ (⟨#[45]⟩ : ByteArray)).size + t168.size ≤ 9223372036854775807 then (if ((((t166 ++ (⟨#[45]⟩ : ByteArray)) ++ t167) ++ (⟨#[45]⟩ : ByteArray)) ++ t168).size + (a1.extract 0 1).size ≤ 9223372036854775807 then (some (((((t166 ++ (⟨#[45]⟩ : ByteArray)) ++ t167) ++ (⟨#[45]⟩ : ByteArray)) ++ t168) ++ (a1.extract 0 1))) else (none)) else (none)) = some r := H
       have A23 := Aside0.mk A230
       clear A230
       by_cases c24 : (((t166 ++ (⟨#[45]⟩ : ByteArray)) ++ t167) ++ (⟨#[45]⟩ : ByteArray)).size + t168.size ≤ 9223372036854775807
       ·rw [if_pos c24] at H
        have c24b0 := eq_true c24
        have c24b1 : decide ((((t166 ++ (⟨#[45]⟩ : ByteArray)) ++ t167) ++ (⟨#[45]⟩ : ByteArray)).size + t168.size ≤ 9223372036854775807) = true := decide_eq_true c24
        try have c24b2 : (9223372036854775807 < (((t166 ++ (⟨#[45]⟩ : ByteArray)) ++ t167) ++ (⟨#[45]⟩ : ByteArray)).size + t168.size) = False := eq_false (Nat.not_lt.2 c24)
        try have c24b3 : (9223372036854775807 < t166.size + 1 + t167.size + 1 + t168.size) = False := eq_false (by have h_ := Nat.not_lt.2 c24; simp only [ByteArray.size_append] at h_; exact h_)
        by_cases c25 : ((((t166 ++ (⟨#[45]⟩ : ByteArray)) ++ t167) ++ (⟨#[45]⟩ : ByteArray)) ++ t168).size + (a1.extract 0 1).size ≤ 9223372036854775807
        ·rw [if_pos c25] at H
         have c25b0 := eq_true c25
         have c25b1 : decide (((((t166 ++ (⟨#[45]⟩ : ByteArray)) ++ t167) ++ (⟨#[45]⟩ : ByteArray)) ++ t168).size + (a1.extract 0 1).size ≤ 9223372036854775807) = true := decide_eq_true c25
         try have c25b2 : (9223372036854775807 < ((((t166 ++ (⟨#[45]⟩ : ByteArray)) ++ t167) ++ (⟨#[45]⟩ : ByteArray)) ++ t168).size + (a1.extract 0 1).size) = False := eq_false (Nat.not_lt.2 c25)
         try have c25b3 : (9223372036854775807 < t166.size + 1 + t167.size + 1 + t168.size + (a1.extract 0 1).size) = False := eq_false (by have h_ := Nat.not_lt.2 c25; simp only [ByteArray.size_append] at h_; exact h_)
         obtain rfl := Option.some.inj H
         go_enter Try.func26, Try.ntmps26
         go_wp2_with (first | (go_at_call 37; (with_reducible refine (sphere_decimal.calls k (wrap64 (Int.tdiv a0 3600)) 1 t166 _ A18.out).mono ?_); rintro e w26 ⟨rfl, hb⟩; have n0_ := Aside0.mk (below_step (by with_reducible repeat first | exact HB.out | apply ba | apply bn | apply bd) hb); clear HB; have HB := n0_; clear n0_; (try clear hb); (try clear hb2); (try clear hk); (try clear hi)) | (go_at_call 37; (with_reducible refine (sphere_decimal.calls k (Int.tmod (wrap64 (Int.tdiv a0 60)) 60) 2 t167 _ A20.out).mono ?_); rintro e w27 ⟨rfl, hb⟩; have n0_ := Aside0.mk (below_step (by with_reducible repeat first | exact HB.out | apply ba | apply bn | apply bd) hb); clear HB; have HB := n0_; clear n0_; (try clear hb); (try clear hb2); (try clear hk); (try clear hi)) | (go_at_call 37; (with_reducible refine (sphere_decimal.calls k (Int.tmod a0 60) 2 t168 _ A23.out).mono ?_); rintro e w28 ⟨rfl, hb⟩; have n0_ := Aside0.mk (below_step (by with_reducible repeat first | exact HB.out | apply ba | apply bn | apply bd) hb); clear HB; have HB := n0_; clear n0_; (try clear hb); (try clear hb2); (try clear hk); (try clear hi)))
         repeat (go_quiet (first | (go_at_call 37; (with_reducible refine (sphere_decimal.calls k (wrap64 (Int.tdiv a0 3600)) 1 t166 _ A18.out).mono ?_); rintro e w26 ⟨rfl, hb⟩; have n0_ := Aside0.mk (below_step (by with_reducible repeat first | exact HB.out | apply ba | apply bn | apply bd) hb); clear HB; have HB := n0_; clear n0_; (try clear hb); (try clear hb2); (try clear hk); (try clear hi)) | (go_at_call 37; (with_reducible refine (sphere_decimal.calls k (Int.tmod (wrap64 (Int.tdiv a0 60)) 60) 2 t167 _ A20.out).mono ?_); rintro e w27 ⟨rfl, hb⟩; have n0_ := Aside0.mk (below_step (by with_reducible repeat first | exact HB.out | apply ba | apply bn | apply bd) hb); clear HB; have HB := n0_; clear n0_; (try clear hb); (try clear hb2); (try clear hk); (try clear hi)) | (go_at_call 37; (with_reducible refine (sphere_decimal.calls k (Int.tmod a0 60) 2 t168 _ A23.out).mono ?_); rintro e w28 ⟨rfl, hb⟩; have n0_ := Aside0.mk (below_step (by with_reducible repeat first | exact HB.out | apply ba | apply bn | apply bd) hb); clear HB; have HB := n0_; clear n0_; (try clear hb); (try clear hb2); (try clear hk); (try clear hi))); try go_wp2_with (first | (go_at_call 37; (with_reducible refine (sphere_decimal.calls k (wrap64 (Int.tdiv a0 3600)) 1 t166 _ A18.out).mono ?_); rintro e w26 ⟨rfl, hb⟩; have n0_ := Aside0.mk (below_step (by with_reducible repeat first | exact HB.out | apply ba | apply bn | apply bd) hb); clear HB; have HB := n0_; clear n0_; (try clear hb); (try clear hb2); (try clear hk); (try clear hi)) | (go_at_call 37; (with_reducible refine (sphere_decimal.calls k (Int.tmod (wrap64 (Int.tdiv a0 60)) 60) 2 t167 _ A20.out).mono ?_); rintro e w27 ⟨rfl, hb⟩; have n0_ := Aside0.mk (below_step (by with_reducible repeat first | exact HB.out | apply ba | apply bn | apply bd) hb); clear HB; have HB := n0_; clear n0_; (try clear hb); (try clear hb2); (try clear hk); (try clear hi)) | (go_at_call 37; (with_reducible refine (sphere_decimal.calls k (Int.tmod a0 60) 2 t168 _ A23.out).mono ?_); rintro e w28 ⟨rfl, hb⟩; have n0_ := Aside0.mk (below_step (by with_reducible repeat first | exact HB.out | apply ba | apply bn | apply bd) hb); clear HB; have HB := n0_; clear n0_; (try clear hb); (try clear hb2); (try clear hk); (try clear hi))))
         go_ret
         exact ⟨by first | rfl | (simp [errW_none, errW_some] <;> rfl) | (simp [*, errW_none, errW_some] <;> rfl), by with_reducible repeat first | exact HB.out | apply ba | apply bn | apply bd⟩
        ·rw [if_neg c25] at H
         exact absurd H (by simp)
       ·rw [if_neg c24] at H
        exact absurd H (by simp)
      ·rw [if_neg c22] at H
       exact absurd H (by simp)
     ·rw [if_neg c21] at H
      exact absurd H (by simp)
    ·rw [if_neg c19] at H
     exact absurd H (by simp)
  ·rw [if_neg c4] at H
   exact absurd H (by simp)
 ·rw [if_neg c3] at H
  exact absurd H (by simp)

/-! ### sphere_Print: function 17 -/
def sphere_Print.f (k : Nat) (a0_0 : Int) (a0_1 : Int) : Option (ByteArray) := (sphere_Valid.f a0_0 a0_1).bind fun t170 => (if t170 = true then ((sphere_text.f k a0_1 (⟨#[78, 83]⟩ : ByteArray)).bind fun t171 => (if t171.size + 1 ≤ 9223372036854775807 then ((sphere_text.f k a0_0 (⟨#[69, 87]⟩ : ByteArray)).bind fun t172 => (if (t171 ++ (⟨#[32]⟩ : ByteArray)).size + t172.size ≤ 9223372036854775807 then (some ((t171 ++ (⟨#[32]⟩ : ByteArray)) ++ t172)) else (none))) else (none))) else (some (⟨#[]⟩ : ByteArray)))
theorem sphere_Print.mono : ∀ a0 a1 k, LeO (sphere_Print.f k a0 a1) (sphere_Print.f (k + 1) a0 a1) := by
 intro a0 a1 k
 unfold sphere_Print.f
 repeat' first
   | (with_reducible exact sphere_text.mono _ _ _)
   | (with_reducible exact LeO.refl _)
   | (with_reducible exact LeO.none _)
   | (with_reducible refine LeO.ite ?_ ?_)
   | (with_reducible refine LeO.bind ?_ (fun _ => ?_))
   | exact sphere_text.mono _ _ _
   | exact LeO.none _
   | refine LeO.ite ?_ ?_
   | refine LeO.bind ?_ (fun _ => ?_)
def sphere_Print.T3 : Bool × List (List Nat × List Nat) := (true, [([], []), ([0], [0]), ([1], [1]), ([2], [2]), ([], []), ([4], [4]), ([5, 2], [5]), ([3, 6], [3, 6]), ([7, 6, 0, 1, 2, 3, 4, 5, 6, 7], [7])])
def sphere_Print.B3 : List Nat := [0, 1, 3, 7, 0, 16, 55, 127, 255]
theorem sphere_Print.tab3 : rtab .any (opsOf Try.f17 3) = sphere_Print.T3 := by kernel_rfl
theorem sphere_Print.bits3 : waitsOk sphere_Print.T3.2 sphere_Print.B3 = true := by kernel_rfl
set_option maxHeartbeats 8000000 in
set_option maxRecDepth 100000 in
theorem sphere_Print.calls (k : Nat) (a0_0 : Int) (a0_1 : Int) (r : ByteArray) (w : World) (h : sphere_Print.f k a0_0 a0_1 = some r) :
  Calls Try.prog 17 #[.agg #[.int .i64 a0_0, .int .i64 a0_1]] w fun e w' => e = .returned (.string r) ∧ Below w.heap.size w w' := by
 have hu23 := Try.underlying23
 have HB := Aside0.mk (Below.refl w.heap.size w)
 have H : ((sphere_Valid.f a0_0 a0_1).bind fun t170 => (if t170 = true then ((sphere_text.f k a0_1 (⟨#[78, 83]⟩ : ByteArray)).bind fun t171 => (if t171.size + 1 ≤ 9223372036854775807 then ((sphere_text.f k a0_0 (⟨#[69, 87]⟩ : ByteArray)).bind fun t172 => (if (t171 ++ (⟨#[32]⟩ : ByteArray)).size + t172.size ≤ 9223372036854775807 then (some ((t171 ++ (⟨#[32]⟩ : ByteArray)) ++ t172)) else (none))) else (none))) else (some (⟨#[]⟩ : ByteArray)))) = some r := h
 clear h
 replace H := Option.bind_eq_some_iff.mp H
 obtain ⟨t170, A20, H⟩ := H
 replace H : (if t170 = true then ((sphere_text.f k a0_1 (⟨#[78, 83]⟩ : ByteArray)).bind fun t171 => (if t171.size + 1 ≤ 9223372036854775807 then ((sphere_text.f k a0_0 (⟨#[69, 87]⟩ : ByteArray)).bind fun t172 => (if (t171 ++ (⟨#[32]⟩ : ByteArray)).size + t172.size ≤ 9223372036854775807 then (some ((t171 ++ (⟨#[32]⟩ : ByteArray)) ++ t172)) else (none))) else (none))) else (some (⟨#[]⟩ : ByteArray))) = some r := H
 have A2 := Aside0.mk A20
 clear A20
 by_cases c3 : t170 = true
 ·subst c3
  have H1 : ((sphere_text.f k a0_1 (⟨#[78, 83]⟩ : ByteArray)).bind fun t171 => (if t171.size + 1 ≤ 9223372036854775807 then ((sphere_text.f k a0_0 (⟨#[69, 87]⟩ : ByteArray)).bind fun t172 => (if (t171 ++ (⟨#[32]⟩ : ByteArray)).size + t172.size ≤ 9223372036854775807 then (some ((t171 ++ (⟨#[32]⟩ : ByteArray)) ++ t172)) else (none))) else (none))) = some r := by rw [if_pos rfl] at H; exact H
  clear H
  have H := H1
  clear H1
  replace H := Option.bind_eq_some_iff.mp H
  obtain ⟨t171, A40, H⟩ := H
  replace H : (if t171.size + 1 ≤ 9223372036854775807 then ((sphere_text.f k a0_0 (⟨#[69, 87]⟩ : ByteArray)).bind fun t172 => (if (t171 ++ (⟨#[32]⟩ : ByteArray)).size + t172.size ≤ 9223372036854775807 then (some ((t171 ++ (⟨#[32]⟩ : ByteArray)) ++ t172)) else (none))) else (none)) = some r := H
  have A4 := Aside0.mk A40
  clear A40
  by_cases c5 : t171.size + 1 ≤ 9223372036854775807
  ·rw [if_pos c5] at H
   have c5b0 := eq_true c5
   have c5b1 : decide (t171.size + 1 ≤ 9223372036854775807) = true := decide_eq_true c5
   try have c5b2 : (9223372036854775807 < t171.size + 1) = False := eq_false (Nat.not_lt.2 c5)
   replace H := Option.bind_eq_some_iff.mp H
   obtain ⟨t172, A60, H⟩ := H
   replace H : (if (t171 ++ (⟨#[32]⟩ : ByteArray)).size + t172.size ≤ 9223372036854775807 then (some ((t171 ++ (⟨#[32]⟩ : ByteArray)) ++ t172)) else (none)) = some r := H
   have A6 := Aside0.mk A60
   clear A60
   by_cases c7 : (t171 ++ (⟨#[32]⟩ : ByteArray)).size + t172.size ≤ 9223372036854775807
   ·rw [if_pos c7] at H
    have c7b0 := eq_true c7
    have c7b1 : decide ((t171 ++ (⟨#[32]⟩ : ByteArray)).size + t172.size ≤ 9223372036854775807) = true := decide_eq_true c7
    try have c7b2 : (9223372036854775807 < (t171 ++ (⟨#[32]⟩ : ByteArray)).size + t172.size) = False := eq_false (Nat.not_lt.2 c7)
    try have c7b3 : (9223372036854775807 < t171.size + 1 + t172.size) = False := eq_false (by have h_ := Nat.not_lt.2 c7; simp only [ByteArray.size_append] at h_; exact h_)
    obtain rfl := Option.some.inj H
    go_enter Try.func17, Try.ntmps17
    try go_wp2_with (first | ((with_reducible refine gate_dst (N := 1) rfl ?_); refine box_event ?hg (N := 1) ?hd (cs := #[.int .i64 a0_0, .int .i64 a0_1]) (t := 23) ?hr ?_; (case hd => rfl); (case hg => rfl); (case hr => first | (go_simp; done) | (go_simp; rfl)); intro gb169 hg w8 hbox hb; have n0_ := Aside0.mk (below_step (by with_reducible repeat first | exact HB.out | apply ba | apply bn | apply bd) hb); have n1_ := Aside0.mk (hbox); have n2_ := Aside0.mk ((by rw [hg]; exact (below_size (by with_reducible repeat first | exact HB.out | apply ba | apply bn | apply bd)) : w.heap.size ≤ gb169)); have n3_ := Aside0.mk ((by rw [hg]; exact (below_size (by with_reducible repeat first | exact HB.out | apply ba | apply bn | apply bd)) : w.heap.size ≤ gb169)); clear HB; have HB := n0_; have BK169 := n1_; have GW169 := n2_; have GE169 := n3_; clear n0_ n1_ n2_ n3_; clear hb hbox hg; have hcz9_0 : w8.cell? ⟨gb169, 0, none⟩ = some (.int .i64 a0_0) := (blk_cell BK169.out 0).trans rfl; have hcz9_1 : w8.cell? ⟨gb169, 1, none⟩ = some (.int .i64 a0_1) := (blk_cell BK169.out 1).trans rfl; have hfz9_0 := blk_frozen BK169.out 0; have hfz9_1 := blk_frozen BK169.out 1) | ((with_reducible refine gate_callee (f := 10) rfl ?_); refine goesL_ (some 4) rfl rfl Try.func10 (by kernel_rfl) rfl #[.agg #[.int .i64 a0_0, .int .i64 a0_1]] rfl (by (try simp only [List.map_toArray, List.map_cons, List.map_nil]); first | done | rfl | (simp only [List.length_drop, List.length_take]; rfl)) ?_; (with_reducible refine (sphere_Valid.calls a0_0 a0_1 true _ A2.out).mono ?_); rintro e w10 ⟨rfl, hb⟩; refine ⟨_, rfl, ?_⟩; have n0_ := Aside0.mk (blk_below (g := gb169) (o := .cells #[.int .i64 a0_0, .int .i64 a0_1] 23 (0, 0)) BK169.out hb); have n1_ := Aside0.mk (below_step (by with_reducible repeat first | exact HB.out | apply ba | apply bn | apply bd | refine bs ?_ GE169.out) hb); clear BK169; clear HB; have BK169 := n0_; have HB := n1_; clear n0_ n1_; (try clear hb); (try clear hb2); (try clear hk); (try clear hi)))
    have n0_ := Aside0.mk (blk_drew BK169.out)
    have n1_ := Aside0.mk (below_drew1 HB.out)
    clear BK169
    clear HB
    have BK169 := n0_
    have HB := n1_
    clear n0_ n1_
    refine start_ (n := 9) (S := fun w' => w'.cell? ⟨gb169, 0, none⟩ = some (.int .i64 a0_0) ∧ w'.cell? ⟨gb169, 1, none⟩ = some (.int .i64 a0_1)) (ds := []) #[false, false, false, false, false, false, false, false, false] (by kernel_rfl) rfl rfl ⟨(blk_cell BK169.out 0).trans rfl, (blk_cell BK169.out 1).trans rfl⟩ (fun hHeld => ?_); refine with_tabW sphere_Print.tab3 sphere_Print.bits3 (fun HT_ HW_ => ?_)
    generalize w10.drew = w11 at BK169 HB hHeld ⊢
    refine pure_ (i := 0) (N := some 6) (v := ?_) (a' := ?_) #[true, false, false, false, false, false, false, false, false] rfl rfl (any_of HT_.out (by kernel_rfl)) (fun _ _ _ h => h) (Or.inl ⟨by rfl, ?_⟩) ?_ ?_
    rotate_left
    ·intro w'
     go_simp
     with_reducible rfl
    rotate_left
    ·simp only [Act.put, s1, s2, s3, i64_w, i32_w]
     rfl
    refine pure_ (i := 4) (N := some 10) (v := ?_) (a' := ?_) #[true, false, false, false, true, false, false, false, false] rfl rfl (any_of HT_.out (by kernel_rfl)) (fun _ _ _ h => h) (Or.inl ⟨by rfl, ?_⟩) ?_ ?_
    rotate_left
    ·intro w'
     go_simp
     with_reducible rfl
    rotate_left
    ·simp only [Act.put, s1, s2, s3, i64_w, i32_w]
     rfl
    refine take_ (i := 1) (N := some 7) (v := ?_) (a' := ?_) #[true, true, false, false, true, false, false, false, false] rfl rfl (take_ofW HT_.out HW_.out (by kernel_rfl)) (fun _ _ _ h => h) (Or.inl ⟨by rfl, ?_⟩) hHeld ?_ ?_
    rotate_left
    ·rintro w' ⟨s0, s1⟩
     go_simp
     with_reducible rfl
    rotate_left
    ·simp only [Act.put, s1, s2, s3, i64_w, i32_w]
     rfl
    refine take_ (i := 5) (N := some 11) (v := ?_) (a' := ?_) #[true, true, false, false, true, true, false, false, false] rfl rfl (take_ofW HT_.out HW_.out (by kernel_rfl)) (fun _ _ _ h => h) (Or.inl ⟨by rfl, ?_⟩) hHeld ?_ ?_
    rotate_left
    ·rintro w' ⟨s0, s1⟩
     go_simp
     with_reducible rfl
    rotate_left
    ·simp only [Act.put, s1, s2, s3, i64_w, i32_w]
     rfl
    refine one_ (i := 2) (N := some 8) #[true, true, true, false, true, true, false, false, false] rfl rfl (one_of HT_.out (by kernel_rfl)) (by decide) (fun K hK => ?_)
    refine goes_ Try.func26 (by kernel_rfl) rfl #[.int .i64 a0_1, .string (⟨#[78, 83]⟩ : ByteArray)] (by rfl) rfl rfl (by (try simp only [List.map_toArray, List.map_cons, List.map_nil]); first | done | rfl | (simp only [List.length_drop, List.length_take]; rfl)) ?_
    with_reducible refine (sphere_text.calls k a0_1 (⟨#[78, 83]⟩ : ByteArray) t171 _ A4.out).mono ?_
    rintro e w12 ⟨rfl, hb⟩
    refine ⟨_, rfl, ?_⟩
    have n0_ := Aside0.mk (blk_below (g := gb169) (o := .cells #[.int .i64 a0_0, .int .i64 a0_1] 23 (0, 0)) BK169.out hb)
    have n1_ := Aside0.mk (below_step (by with_reducible repeat first | exact HB.out | apply ba | apply bn | apply bd | refine bs ?_ GE169.out) hb)
    clear BK169
    clear HB
    have BK169 := n0_
    have HB := n1_
    clear n0_ n1_
    (try clear hb)
    (try clear hb2)
    (try clear hk)
    (try clear hi)
    refine hK.out _ _ ⟨(blk_cell BK169.out 0).trans rfl, (blk_cell BK169.out 1).trans rfl⟩ (fun hHeld => ?_)
    clear hK K
    refine norm_ (a' := ?_) ?_ ?_
    rotate_left
    ·show Act.put _ (some 8) _ = _
     simp only [Act.put, s1, s2, s3, i64_w, i32_w]
     rfl
    refine pure_ (i := 3) (N := some 9) (v := ?_) (a' := ?_) #[true, true, true, true, true, true, false, false, false] rfl rfl (any_of HT_.out (by kernel_rfl)) (fun _ _ _ h => h) (Or.inl ⟨by rfl, ?_⟩) ?_ ?_
    rotate_left
    ·intro w'
     go_simp
     with_reducible rfl
    rotate_left
    ·simp only [Act.put, s1, s2, s3, i64_w, i32_w]
     rfl
    refine one_ (i := 6) (N := some 12) #[true, true, true, true, true, true, true, false, false] rfl rfl (one_of HT_.out (by kernel_rfl)) (by decide) (fun K hK => ?_)
    refine goes_ Try.func26 (by kernel_rfl) rfl #[.int .i64 a0_0, .string (⟨#[69, 87]⟩ : ByteArray)] (by rfl) rfl rfl (by (try simp only [List.map_toArray, List.map_cons, List.map_nil]); first | done | rfl | (simp only [List.length_drop, List.length_take]; rfl)) ?_
    with_reducible refine (sphere_text.calls k a0_0 (⟨#[69, 87]⟩ : ByteArray) t172 _ A6.out).mono ?_
    rintro e w13 ⟨rfl, hb⟩
    refine ⟨_, rfl, ?_⟩
    have n0_ := Aside0.mk (blk_below (g := gb169) (o := .cells #[.int .i64 a0_0, .int .i64 a0_1] 23 (0, 0)) BK169.out hb)
    have n1_ := Aside0.mk (below_step (by with_reducible repeat first | exact HB.out | apply ba | apply bn | apply bd | refine bs ?_ GE169.out) hb)
    clear BK169
    clear HB
    have BK169 := n0_
    have HB := n1_
    clear n0_ n1_
    (try clear hb)
    (try clear hb2)
    (try clear hk)
    (try clear hi)
    refine hK.out _ _ ⟨(blk_cell BK169.out 0).trans rfl, (blk_cell BK169.out 1).trans rfl⟩ (fun hHeld => ?_)
    clear hK K
    refine norm_ (a' := ?_) ?_ ?_
    rotate_left
    ·show Act.put _ (some 12) _ = _
     simp only [Act.put, s1, s2, s3, i64_w, i32_w]
     rfl
    refine pure_ (i := 7) (N := some 13) (v := ?_) (a' := ?_) #[true, true, true, true, true, true, true, true, false] rfl rfl (any_of HT_.out (by kernel_rfl)) (fun _ _ _ h => h) (Or.inl ⟨by rfl, ?_⟩) ?_ ?_
    rotate_left
    ·intro w'
     go_simp
     with_reducible rfl
    rotate_left
    ·simp only [Act.put, s1, s2, s3, i64_w, i32_w]
     rfl
    refine pure_ (i := 8) (N := some 2) (v := ?_) (a' := ?_) #[true, true, true, true, true, true, true, true, true] rfl rfl (any_of HT_.out (by kernel_rfl)) (fun _ _ _ h => h) (Or.inl ⟨by rfl, ?_⟩) ?_ ?_
    rotate_left
    ·intro w'
     go_simp
     with_reducible rfl
    rotate_left
    ·simp only [Act.put, s1, s2, s3, i64_w, i32_w]
     rfl
    refine done_ (done_of HT_.out (by kernel_rfl)) ?_
    try go_wp2
    go_ret
    exact ⟨by first | rfl | (simp [errW_none, errW_some] <;> rfl) | (simp [*, errW_none, errW_some] <;> rfl), by with_reducible repeat first | exact HB.out | apply ba | apply bn | apply bd | refine bs ?_ GE169.out⟩
   ·rw [if_neg c7] at H
    exact absurd H (by simp)
  ·rw [if_neg c5] at H
   exact absurd H (by simp)
 ·replace c3 := Bool.eq_false_iff.mpr c3
  subst c3
  have H1 : (some (⟨#[]⟩ : ByteArray)) = some r := by rw [if_neg (show ¬ (false = true) by decide)] at H; exact H
  clear H
  have H := H1
  clear H1
  obtain rfl := Option.some.inj H
  go_enter Try.func17, Try.ntmps17
  go_wp2_with (first | ((with_reducible refine gate_dst (N := 1) rfl ?_); refine box_event ?hg (N := 1) ?hd (cs := #[.int .i64 a0_0, .int .i64 a0_1]) (t := 23) ?hr ?_; (case hd => rfl); (case hg => rfl); (case hr => first | (go_simp; done) | (go_simp; rfl)); intro gb169 hg w14 hbox hb; have n0_ := Aside0.mk (below_step (by with_reducible repeat first | exact HB.out | apply ba | apply bn | apply bd) hb); have n1_ := Aside0.mk (hbox); have n2_ := Aside0.mk ((by rw [hg]; exact (below_size (by with_reducible repeat first | exact HB.out | apply ba | apply bn | apply bd)) : w.heap.size ≤ gb169)); have n3_ := Aside0.mk ((by rw [hg]; exact (below_size (by with_reducible repeat first | exact HB.out | apply ba | apply bn | apply bd)) : w.heap.size ≤ gb169)); clear HB; have HB := n0_; have BK169 := n1_; have GW169 := n2_; have GE169 := n3_; clear n0_ n1_ n2_ n3_; clear hb hbox hg; have hcz15_0 : w14.cell? ⟨gb169, 0, none⟩ = some (.int .i64 a0_0) := (blk_cell BK169.out 0).trans rfl; have hcz15_1 : w14.cell? ⟨gb169, 1, none⟩ = some (.int .i64 a0_1) := (blk_cell BK169.out 1).trans rfl; have hfz15_0 := blk_frozen BK169.out 0; have hfz15_1 := blk_frozen BK169.out 1) | ((with_reducible refine gate_callee (f := 10) rfl ?_); refine goesL_ (some 4) rfl rfl Try.func10 (by kernel_rfl) rfl #[.agg #[.int .i64 a0_0, .int .i64 a0_1]] rfl (by (try simp only [List.map_toArray, List.map_cons, List.map_nil]); first | done | rfl | (simp only [List.length_drop, List.length_take]; rfl)) ?_; (with_reducible refine (sphere_Valid.calls a0_0 a0_1 false _ A2.out).mono ?_); rintro e w16 ⟨rfl, hb⟩; refine ⟨_, rfl, ?_⟩; have n0_ := Aside0.mk (blk_below (g := gb169) (o := .cells #[.int .i64 a0_0, .int .i64 a0_1] 23 (0, 0)) BK169.out hb); have n1_ := Aside0.mk (below_step (by with_reducible repeat first | exact HB.out | apply ba | apply bn | apply bd | refine bs ?_ GE169.out) hb); clear BK169; clear HB; have BK169 := n0_; have HB := n1_; clear n0_ n1_; (try clear hb); (try clear hb2); (try clear hk); (try clear hi)))
  go_ret
  exact ⟨by first | rfl | (simp [errW_none, errW_some] <;> rfl) | (simp [*, errW_none, errW_some] <;> rfl), by with_reducible repeat first | exact HB.out | apply ba | apply bn | apply bd | refine bs ?_ GE169.out⟩

/-! ### series_circle: function 48 -/
def series_circle.f (a0 : Int) : Option (Int) := if (Int.tmod a0 1296000) < 0 then (some (wrap64 ((Int.tmod a0 1296000) + 1296000))) else (some (Int.tmod a0 1296000))
set_option maxHeartbeats 8000000 in
set_option maxRecDepth 100000 in
theorem series_circle.calls (a0 : Int) (r : Int) (w : World) (h : series_circle.f a0 = some r) :
  Calls Try.prog 48 #[.int .i64 a0] w fun e w' => e = .returned (.int .i64 r) ∧ Drawn0 w w' := by
 have H : (if (Int.tmod a0 1296000) < 0 then (some (wrap64 ((Int.tmod a0 1296000) + 1296000))) else (some (Int.tmod a0 1296000))) = some r := h
 clear h
 by_cases c2 : (Int.tmod a0 1296000) < 0
 ·rw [if_pos c2] at H
  have c2b0 : decide ((Int.tmod a0 1296000) < 0) = true := decide_eq_true c2
  clear c2
  obtain rfl := Option.some.inj H
  go_enter Try.func48, Try.ntmps48
  go_wp2
  go_ret
  exact ⟨by first | rfl | (simp; done) | (simp [*]; done), by repeat (first | exact Drawn0.refl _ | apply Drawn0.step)⟩
 ·rw [if_neg c2] at H
  have c2b0 : decide ((Int.tmod a0 1296000) < 0) = false := decide_eq_false c2
  clear c2
  obtain rfl := Option.some.inj H
  go_enter Try.func48, Try.ntmps48
  go_wp2
  go_ret
  exact ⟨by first | rfl | (simp; done) | (simp [*]; done), by repeat (first | exact Drawn0.refl _ | apply Drawn0.step)⟩

/-! ### num_abs: function 50 -/
def num_abs.f (a0 : Int) : Option (Int) := if a0 < 0 then (some (IntKind.u64.wrap (-(IntKind.u64.wrap (a0))))) else (some (IntKind.u64.wrap (a0)))
set_option maxHeartbeats 8000000 in
set_option maxRecDepth 100000 in
theorem num_abs.calls (a0 : Int) (r : Int) (w : World) (h : num_abs.f a0 = some r) :
  Calls Try.prog 50 #[.int .i64 a0] w fun e w' => e = .returned (.int .u64 r) ∧ Drawn0 w w' := by
 have H : (if a0 < 0 then (some (IntKind.u64.wrap (-(IntKind.u64.wrap (a0))))) else (some (IntKind.u64.wrap (a0)))) = some r := h
 clear h
 by_cases c2 : a0 < 0
 ·rw [if_pos c2] at H
  have c2b0 : decide (a0 < 0) = true := decide_eq_true c2
  clear c2
  obtain rfl := Option.some.inj H
  go_enter Try.func50, Try.ntmps50
  go_wp2
  go_ret
  exact ⟨by first | rfl | (simp; done) | (simp [*]; done), by repeat (first | exact Drawn0.refl _ | apply Drawn0.step)⟩
 ·rw [if_neg c2] at H
  have c2b0 : decide (a0 < 0) = false := decide_eq_false c2
  clear c2
  obtain rfl := Option.some.inj H
  go_enter Try.func50, Try.ntmps50
  go_wp2
  go_ret
  exact ⟨by first | rfl | (simp; done) | (simp [*]; done), by repeat (first | exact Drawn0.refl _ | apply Drawn0.step)⟩

/-! ### bits_Mul64: function 68 -/
def bits_Mul64.f (a0 : Int) (a1 : Int) : Option (Int × Int) := some (IntKind.u64.wrap ((IntKind.u64.wrap ((IntKind.u64.wrap ((a0 / 4294967296) * (a1 / 4294967296))) + ((IntKind.u64.wrap ((IntKind.u64.wrap ((a0 / 4294967296) * (Go.bits .and .u64 a1 4294967295))) + ((IntKind.u64.wrap ((Go.bits .and .u64 a0 4294967295) * (Go.bits .and .u64 a1 4294967295))) / 4294967296))) / 4294967296))) + ((IntKind.u64.wrap ((Go.bits .and .u64 (IntKind.u64.wrap ((IntKind.u64.wrap ((a0 / 4294967296) * (Go.bits .and .u64 a1 4294967295))) + ((IntKind.u64.wrap ((Go.bits .and .u64 a0 4294967295) * (Go.bits .and .u64 a1 4294967295))) / 4294967296))) 4294967295) + (IntKind.u64.wrap ((Go.bits .and .u64 a0 4294967295) * (a1 / 4294967296))))) / 4294967296)), IntKind.u64.wrap (a0 * a1))
set_option maxHeartbeats 8000000 in
set_option maxRecDepth 100000 in
theorem bits_Mul64.calls (a0 : Int) (a1 : Int) (r1 : Int) (r2 : Int) (w : World) (h : bits_Mul64.f a0 a1 = some (r1, r2)) :
  Calls Try.prog 68 #[.int .u64 a0, .int .u64 a1] w fun e w' => e = .returned (.tuple #[.int .u64 r1, .int .u64 r2]) ∧ Drawn0 w w' := by
 have H : (some (IntKind.u64.wrap ((IntKind.u64.wrap ((IntKind.u64.wrap ((a0 / 4294967296) * (a1 / 4294967296))) + ((IntKind.u64.wrap ((IntKind.u64.wrap ((a0 / 4294967296) * (Go.bits .and .u64 a1 4294967295))) + ((IntKind.u64.wrap ((Go.bits .and .u64 a0 4294967295) * (Go.bits .and .u64 a1 4294967295))) / 4294967296))) / 4294967296))) + ((IntKind.u64.wrap ((Go.bits .and .u64 (IntKind.u64.wrap ((IntKind.u64.wrap ((a0 / 4294967296) * (Go.bits .and .u64 a1 4294967295))) + ((IntKind.u64.wrap ((Go.bits .and .u64 a0 4294967295) * (Go.bits .and .u64 a1 4294967295))) / 4294967296))) 4294967295) + (IntKind.u64.wrap ((Go.bits .and .u64 a0 4294967295) * (a1 / 4294967296))))) / 4294967296)), IntKind.u64.wrap (a0 * a1))) = some (r1, r2) := h
 clear h
 simp only [Option.some.injEq, Prod.mk.injEq] at H
 obtain ⟨rfl, rfl⟩ := H
 go_enter Try.func68, Try.ntmps68
 go_wp2
 go_ret2
 exact ⟨by first | rfl | (simp; done) | (simp [*]; done), by repeat (first | exact Drawn0.refl _ | apply Drawn0.step)⟩

/-! ### bits_Len64: function 72, by hand -/

def bits_Len64.f (a0 : Int) : Option (Int) := if 0 ≤ a0 ∧ a0 ≤ 18446744073709551615 then some (Lib.bitLen a0.toNat : Int) else none
theorem bits_Len64.calls (a0 : Int) (r : Int) (w : World) (h : bits_Len64.f a0 = some r) :
    Calls Try.prog 72 #[.int .u64 a0] w fun e w' => e = .returned (.int .i64 r) ∧ Drawn0 w w' := by
  unfold bits_Len64.f at h
  by_cases c : 0 ≤ a0 ∧ a0 ≤ 18446744073709551615
  · rw [if_pos c] at h
    obtain rfl := Option.some.inj h
    exact (Try.bits_Len64 a0 w c.1 c.2).mono fun _ _ ⟨he, hw⟩ => ⟨he, hw ▸ Drawn0.refl _⟩
  · rw [if_neg c] at h
    cases h

/-! ### bits_LeadingZeros64: function 71 -/
def bits_LeadingZeros64.f (a0 : Int) : Option (Int) := (bits_Len64.f a0).bind fun t173 => (some (wrap64 (64 - t173)))
set_option maxHeartbeats 8000000 in
set_option maxRecDepth 100000 in
theorem bits_LeadingZeros64.calls (a0 : Int) (r : Int) (w : World) (h : bits_LeadingZeros64.f a0 = some r) :
  Calls Try.prog 71 #[.int .u64 a0] w fun e w' => e = .returned (.int .i64 r) ∧ Drawn0 w w' := by
 have H : ((bits_Len64.f a0).bind fun t173 => (some (wrap64 (64 - t173)))) = some r := h
 clear h
 replace H := Option.bind_eq_some_iff.mp H
 obtain ⟨t173, A20, H⟩ := H
 replace H : (some (wrap64 (64 - t173))) = some r := H
 have A2 := Aside0.mk A20
 clear A20
 obtain rfl := Option.some.inj H
 go_enter Try.func71, Try.ntmps71
 go_wp2_with (first | ((with_reducible refine gate_callee (f := 72) rfl ?_); refine goesL_ (some 4) rfl rfl Try.func72 (by kernel_rfl) rfl #[.int .u64 a0] rfl (by (try simp only [List.map_toArray, List.map_cons, List.map_nil]); first | done | rfl | (simp only [List.length_drop, List.length_take]; rfl)) ?_; (with_reducible refine (bits_Len64.calls a0 t173 _ A2.out).mono ?_); rintro e w' ⟨rfl, ⟨nd, rfl⟩⟩; refine ⟨_, rfl, ?_⟩))
 go_ret
 exact ⟨by first | rfl | (simp; done) | (simp [*]; done), by repeat (first | exact Drawn0.refl _ | apply Drawn0.step)⟩

end Go.Proofs.Yteojklacaecmpaa.P
