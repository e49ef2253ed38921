/- Plain laws: the sine of the program is that of the table: it rises, and the squares make 1 within 2 units. -/
import Derived.Test.YteojklacaecmpaaSC
import Derived.Test.YteojklacaecmpaaST
namespace Go.Proofs.Yteojklacaecmpaa.S
open Go.RowKit Go.Proofs.Yteojklacaecmpaa.P Go.Proofs.YteojklacaecmpaaW.PrintWords Go.Proofs.YteojklacaecmpaaW.PrintLast Go.Proofs.YteojklacaecmpaaW.PrintMore
set_option linter.unusedVariables false
set_option linter.unusedSimpArgs false

def tmN (a : Nat) : Nat → Nat
  | 0 => a
  | i + 1 => tmN a i * a / 1152921504606846976 * a / 1152921504606846976 / ((2 * (i + 1)) * (2 * (i + 1) + 1))
theorem tmN_cast (a : Nat) : ∀ i, ((tmN a i : Nat) : Int) = tms a i
  | 0 => rfl
  | i + 1 => by
    have ih := tmN_cast a i
    simp only [tmN, tms, dvs, Int.natCast_ediv, Int.natCast_mul, ih]
    rfl
theorem stp_eq (a i d : Nat) (hd : d = (2 * (i + 1)) * (2 * (i + 1) + 1)) : stpN (tmN a i) a d = tmN a (i + 1) := by
  rw [hd]; rfl
theorem sinA_eq (a : Nat) : sinA a = sumN a (tmN a 1) (tmN a 2) (tmN a 3) (tmN a 4) (tmN a 5) (tmN a 6) (tmN a 7) (tmN a 8) (tmN a 9) (tmN a 10) (tmN a 11) (tmN a 12) (tmN a 13) := by
  rw [← stp_eq a 12 702 (by decide), ← stp_eq a 11 600 (by decide), ← stp_eq a 10 506 (by decide), ← stp_eq a 9 420 (by decide), ← stp_eq a 8 342 (by decide), ← stp_eq a 7 272 (by decide), ← stp_eq a 6 210 (by decide), ← stp_eq a 5 156 (by decide), ← stp_eq a 4 110 (by decide), ← stp_eq a 3 72 (by decide), ← stp_eq a 2 42 (by decide), ← stp_eq a 1 20 (by decide), ← stp_eq a 0 6 (by decide)]
  rfl
theorem sms13 (a : Int) : sms a 13 = a - tms a 1 + tms a 2 - tms a 3 + tms a 4 - tms a 5 + tms a 6 - tms a 7 + tms a 8 - tms a 9 + tms a 10 - tms a 11 + tms a 12 - tms a 13 := rfl

theorem tms_down {a : Int} (h0 : 0 ≤ a) (h1 : a ≤ topA) (i : Nat) : tms a (i + 1) ≤ tms a i := by
  have t1 := (tms_mono h0 h1 i).1
  have ta : topA ≤ 2305843009213693952 := by decide
  have e1 : tms a i * a / 1152921504606846976 ≤ 2 * tms a i := by
    rw [Int.ediv_le_iff_le_mul (by decide)]
    have := Int.mul_le_mul_of_nonneg_left (show a ≤ 2305843009213693952 by omega) t1
    omega
  have e0 : 0 ≤ tms a i * a / 1152921504606846976 := Int.ediv_nonneg (Int.mul_nonneg t1 h0) (by decide)
  have e2 : tms a i * a / 1152921504606846976 * a / 1152921504606846976 ≤ 4 * tms a i := by
    rw [Int.ediv_le_iff_le_mul (by decide)]
    have := Int.mul_le_mul e1 (show a ≤ 2305843009213693952 by omega) h0 (by omega)
    omega
  have e3 : 0 ≤ tms a i * a / 1152921504606846976 * a / 1152921504606846976 := Int.ediv_nonneg (Int.mul_nonneg e0 h0) (by decide)
  have hd : 6 ≤ dvs i := by
    unfold dvs
    have := Int.mul_le_mul (show (2 : Int) ≤ 2 * ((i : Int) + 1) by omega) (show (3 : Int) ≤ 2 * ((i : Int) + 1) + 1 by omega) (by decide) (by omega)
    omega
  show _ / dvs i ≤ _
  have := Int.ediv_le_ediv (show 0 < (6 : Int) by decide) e2
  have h6 : tms a i * a / 1152921504606846976 * a / 1152921504606846976 / dvs i ≤ tms a i * a / 1152921504606846976 * a / 1152921504606846976 / 6 := by
    generalize tms a i * a / 1152921504606846976 * a / 1152921504606846976 = X at *
    rw [Int.le_ediv_iff_mul_le (by decide)]
    have q := Int.ediv_mul_le X (show dvs i ≠ 0 by omega)
    have q0 : 0 ≤ X / dvs i := Int.ediv_nonneg e3 (by omega)
    have := Int.mul_le_mul_of_nonneg_left hd q0
    omega
  omega

theorem sq_nat {t : Nat} (ht : t ≤ 324000) : sq (t : Int) = (sN t : Int) := by
  have ab := arc_bd (t := (t : Int)) (by omega) (by omega)
  have ea : ((arcN t : Nat) : Int) = arc t := by
    show ((t * 3622009729038561421 / 648000 : Nat) : Int) = _
    unfold arc
    omega
  rw [← ea] at ab
  unfold sq fine sN
  rw [sinA_eq, sms13, ← ea]
  have c := tmN_cast (arcN t)
  have d := fun i => tms_down ab.1 ab.2 i
  have d0 := d 0
  have d2 := d 2
  have d4 := d 4
  have d6 := d 6
  have d8 := d 8
  have d10 := d 10
  have d12 := d 12
  simp only [Nat.zero_add, Nat.reduceAdd] at d0 d2 d4 d6 d8 d10 d12
  have z : tms (arcN t) 0 = (arcN t : Int) := rfl
  rw [z] at d0
  rw [← c 1, ← c 2, ← c 3, ← c 4, ← c 5, ← c 6, ← c 7, ← c 8, ← c 9, ← c 10, ← c 11, ← c 12, ← c 13]
  rw [← c 1] at d0
  rw [← c 2, ← c 3] at d2
  rw [← c 4, ← c 5] at d4
  rw [← c 6, ← c 7] at d6
  rw [← c 8, ← c 9] at d8
  rw [← c 10, ← c 11] at d10
  rw [← c 12, ← c 13] at d12
  generalize tmN (arcN t) 1 = t1 at *
  generalize tmN (arcN t) 2 = t2 at *
  generalize tmN (arcN t) 3 = t3 at *
  generalize tmN (arcN t) 4 = t4 at *
  generalize tmN (arcN t) 5 = t5 at *
  generalize tmN (arcN t) 6 = t6 at *
  generalize tmN (arcN t) 7 = t7 at *
  generalize tmN (arcN t) 8 = t8 at *
  generalize tmN (arcN t) 9 = t9 at *
  generalize tmN (arcN t) 10 = t10 at *
  generalize tmN (arcN t) 11 = t11 at *
  generalize tmN (arcN t) 12 = t12 at *
  generalize tmN (arcN t) 13 = t13 at *
  generalize arcN t = b at *
  show _ = (((b + (t2 + (t4 + (t6 + (t8 + (t10 + t12))))) - (t1 + (t3 + (t5 + (t7 + (t9 + (t11 + t13)))))) + 536870912) / 1073741824 : Nat) : Int)
  clear c d ea ab
  omega

/-- What the table says. -/
theorem tab_int {t : Int} (t0 : 0 ≤ t) (t1 : t < 162000) : 1152921502459363328 ≤ sq t * sq t + sq (324000 - t) * sq (324000 - t) ∧ sq t * sq t + sq (324000 - t) * sq (324000 - t) ≤ 1152921506754330624 ∧ sq t ≤ sq (t + 1) ∧ sq (323999 - t) ≤ sq (324000 - t) := by
  obtain ⟨n, rfl⟩ := Int.eq_ofNat_of_zero_le t0
  have h := tab_ok n (by omega)
  have e1 := sq_nat (t := n) (by omega)
  have e2 := sq_nat (t := 324000 - n) (by omega)
  have e3 := sq_nat (t := n + 1) (by omega)
  have e4 := sq_nat (t := 324000 - (n + 1)) (by omega)
  rw [show ((324000 - n : Nat) : Int) = 324000 - (n : Int) by omega] at e2
  rw [show ((n + 1 : Nat) : Int) = (n : Int) + 1 by omega] at e3
  rw [show ((324000 - (n + 1) : Nat) : Int) = 323999 - (n : Int) by omega] at e4
  unfold okN at h
  simp only [Bool.and_eq_true, Nat.ble_eq] at h
  obtain ⟨h1, h2, h3, h4⟩ := h
  rw [e1, e2, e3, e4]
  have c1 := Int.ofNat_le.2 h1
  have c2 := Int.ofNat_le.2 h2
  have c3 := Int.ofNat_le.2 h3
  have c4 := Int.ofNat_le.2 h4
  refine ⟨?_, ?_, c3, c4⟩
  · have : ((Nat.add (Nat.mul (sN n) (sN n)) (Nat.mul (sN (324000 - n)) (sN (324000 - n))) : Nat) : Int) = (sN n : Int) * (sN n : Int) + (sN (324000 - n) : Int) * (sN (324000 - n) : Int) := by
      show (((sN n) * (sN n) + (sN (324000 - n)) * (sN (324000 - n)) : Nat) : Int) = _
      rw [Int.natCast_add, Int.natCast_mul, Int.natCast_mul]
    rw [this] at c1
    exact c1
  · have : ((Nat.add (Nat.mul (sN n) (sN n)) (Nat.mul (sN (324000 - n)) (sN (324000 - n))) : Nat) : Int) = (sN n : Int) * (sN n : Int) + (sN (324000 - n) : Int) * (sN (324000 - n) : Int) := by
      show (((sN n) * (sN n) + (sN (324000 - n)) * (sN (324000 - n)) : Nat) : Int) = _
      rw [Int.natCast_add, Int.natCast_mul, Int.natCast_mul]
    rw [this] at c2
    exact c2

theorem sq_zero : sq 0 = 0 := by decide +kernel
theorem sq_top : sq 324000 = 1073741824 := by decide +kernel
theorem sq_step {t : Int} (t0 : 0 ≤ t) (t1 : t < 324000) : sq t ≤ sq (t + 1) := by
  by_cases c : t < 162000
  · exact (tab_int t0 c).2.2.1
  · have := (tab_int (t := 323999 - t) (by omega) (by omega)).2.2.2
    rw [show 323999 - (323999 - t) = t by omega, show 324000 - (323999 - t) = t + 1 by omega] at this
    exact this
theorem sq_mono_n : ∀ (n : Nat) (t : Int), 0 ≤ t → t + n ≤ 324000 → sq t ≤ sq (t + n)
  | 0, t, _, _ => by rw [show t + ((0 : Nat) : Int) = t by omega]; exact Int.le_refl _
  | n + 1, t, h0, h1 => by
    have := sq_mono_n n t h0 (by omega)
    have s := sq_step (t := t + n) (by omega) (by omega)
    rw [show t + ((n + 1 : Nat) : Int) = t + n + 1 by omega]
    omega
theorem sq_mono {s t : Int} (h0 : 0 ≤ s) (h : s ≤ t) (h1 : t ≤ 324000) : sq s ≤ sq t := by
  have := sq_mono_n (t - s).toNat s h0 (by omega)
  rwa [show s + ((t - s).toNat : Int) = t by omega] at this
theorem sq_range {t : Int} (h0 : 0 ≤ t) (h1 : t ≤ 324000) : 0 ≤ sq t ∧ sq t ≤ 1073741824 := by
  have a := sq_mono (Int.le_refl 0) h0 h1
  have b := sq_mono h0 h1 (Int.le_refl _)
  rw [sq_zero] at a
  rw [sq_top] at b
  exact ⟨a, b⟩
/-- The circle. -/
theorem sq_circle {t : Int} (h0 : 0 ≤ t) (h1 : t ≤ 324000) : 1152921502459363328 ≤ sq t * sq t + sq (324000 - t) * sq (324000 - t) ∧ sq t * sq t + sq (324000 - t) * sq (324000 - t) ≤ 1152921506754330624 := by
  by_cases c : t < 162000
  · have := tab_int h0 c; exact ⟨this.1, this.2.1⟩
  · by_cases e : t = 162000
    · rw [e]; decide +kernel
    · have := tab_int (t := 324000 - t) (by omega) (by omega)
      rw [show 324000 - (324000 - t) = t by omega] at this
      omega
end Go.Proofs.Yteojklacaecmpaa.S
