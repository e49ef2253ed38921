/- Plain laws of whole numbers of 64 bits: rounding, the remainder of a turn, and products of two words. -/
import Derived.Test.YteojklacaecmpaaS0
import Derived.Test.YteojklacaecmpaaPx13
import Derived.Test.YteojklacaecmpaaPx6
import Derived.Test.YteojklacaecmpaaPx8
namespace Go.Proofs.Yteojklacaecmpaa.S
open Go.RowKit Go.Proofs.Yteojklacaecmpaa.P Go.Proofs.YteojklacaecmpaaW.PrintWords Go.Proofs.YteojklacaecmpaaW.PrintLast Go.Proofs.YteojklacaecmpaaW.PrintMore
set_option linter.unusedVariables false
set_option linter.unusedSimpArgs false



theorem abs_eq {x : Int} (h : -9223372036854775808 ≤ x) (h' : x ≤ 9223372036854775807) : num_abs.f x = some (if x < 0 then -x else x) := by
  unfold num_abs.f
  by_cases c : x < 0
  · rw [if_pos c, if_pos c, wu, wu]
    congr 1; omega
  · rw [if_neg c, if_neg c, wu]
    congr 1; omega


/-- The quotient rounded down, and the remainder, for a divisor that is positive. -/
theorem divide_eq {a b : Int} (a0 : -9223372036854775808 < a) (a1 : a ≤ 9223372036854775807) (b0 : 1 ≤ b) (b1 : b ≤ 9223372036854775807) {k : Nat} (hk : 1 ≤ k) : num_divide.f k a b = some (a / b, a % b, 0) := by
  obtain ⟨k, rfl⟩ : ∃ m, k = m + 1 := ⟨k - 1, by omega⟩
  have m0 := Int.emod_nonneg a (show b ≠ 0 by omega)
  have m1 := Int.emod_lt_of_pos a (show 0 < b by omega)
  have mm := Int.mul_ediv_add_emod a b
  have qa : a / b ≤ 9223372036854775807 := Int.le_trans (Int.ediv_le_ediv (by omega) a1) (Int.ediv_le_self _ (by omega))
  have qb : -9223372036854775807 ≤ a / b := by
    rw [Int.le_ediv_iff_mul_le (by omega)]
    have := Int.mul_le_mul_of_nonneg_left b0 (show (0 : Int) ≤ 9223372036854775807 by omega)
    rw [Int.neg_mul]
    omega
  have tm := tmod_pos (a := a) b0
  have td := tdiv_pos (a := a) b0
  unfold num_divide.f
  rw [if_neg (by omega), if_neg (by omega)]
  simp only [num_divide.j0, Bool.false_eq_true, ↓reduceIte]
  rw [if_neg (by omega)]
  by_cases z : 0 ≤ a ∨ b ∣ a
  · rw [if_pos z] at tm td
    rw [tm, td, w64 (x := a / b) (by omega) (by omega)]
    have e : ((decide (a % b < 0)) != (decide (b < 0))) = false := by rw [decide_eq_false (by omega), decide_eq_false (by omega)]; rfl
    rw [e]
    split <;> simp
  · rw [if_neg z] at tm td
    have nz : a % b ≠ 0 := fun h => z (Or.inr (Int.dvd_of_emod_eq_zero h))
    have na : a / b < 0 := Int.ediv_neg_of_neg_of_pos (by omega) (by omega)
    rw [tm, td]
    have e : ((decide (a % b - b < 0)) != (decide (b < 0))) = true := by rw [decide_eq_true (by omega), decide_eq_false (by omega)]; rfl
    rw [if_neg (by omega), e, if_pos rfl, w64 (x := a / b + 1) (by omega) (by omega), w64 (x := a / b + 1 - 1) (by omega) (by omega), w64 (x := a % b - b + b) (by omega) (by omega)]
    simp

/-- a / b, rounded to the nearest number, and halves up. -/
def rnd (a b : Int) : Int := (2 * a + b) / (2 * b)

theorem rnd_eq {a b : Int} (b0 : 1 ≤ b) : rnd a b = if 2 * (a % b) ≥ b then a / b + 1 else a / b := by
  have m0 := Int.emod_nonneg a (show b ≠ 0 by omega)
  have m1 := Int.emod_lt_of_pos a (show 0 < b by omega)
  have mm := Int.mul_ediv_add_emod a b
  unfold rnd
  split
  · rename_i h
    have e : 2 * a + b = (2 * (a % b) - b) + (2 * b) * (a / b + 1) := by rw [Int.mul_add, Int.mul_assoc]; omega
    rw [e, Int.add_mul_ediv_left _ _ (by omega), Int.ediv_eq_zero_of_lt (by omega) (by omega)]
    omega
  · rename_i h
    have e : 2 * a + b = (2 * (a % b) + b) + (2 * b) * (a / b) := by rw [Int.mul_assoc]; omega
    rw [e, Int.add_mul_ediv_left _ _ (by omega), Int.ediv_eq_zero_of_lt (by omega) (by omega)]
    omega

theorem rnd_even {a h : Int} (h0 : 1 ≤ h) : rnd a (2 * h) = (a + h) / (2 * h) := by
  unfold rnd
  rw [show 2 * a + 2 * h = 2 * (a + h) by omega, Int.mul_ediv_mul_of_pos _ _ (by omega)]

theorem round_eq {a b : Int} (a0 : -9223372036854775808 < a) (a1 : a < 9223372036854775807) (b0 : 1 ≤ b) (b1 : b ≤ 9223372036854775807) {k : Nat} (hk : 1 ≤ k) : num_Round.f k a b = some (rnd a b, 0) := by
  have m0 := Int.emod_nonneg a (show b ≠ 0 by omega)
  have m1 := Int.emod_lt_of_pos a (show 0 < b by omega)
  have qa : a / b ≤ 9223372036854775806 := by
    rw [Int.ediv_le_iff_le_mul (by omega)]
    have := Int.mul_le_mul_of_nonneg_right b0 (show (0 : Int) ≤ 9223372036854775806 by omega)
    rw [Int.mul_comm b] at this
    omega
  have qb : -9223372036854775807 ≤ a / b := by
    rw [Int.le_ediv_iff_mul_le (by omega)]
    have := Int.mul_le_mul_of_nonneg_left b0 (show (0 : Int) ≤ 9223372036854775807 by omega)
    rw [Int.neg_mul]
    omega
  rw [rnd_eq b0]
  unfold num_Round.f
  rw [divide_eq a0 (by omega) b0 b1 hk]
  simp only [Option.bind_some]
  by_cases z : a % b = 0
  · rw [if_pos z, if_neg (by omega)]
  · rw [if_neg z, abs_eq (by omega) (by omega), abs_eq (by omega) (by omega), if_neg (by omega), if_neg (by omega)]
    simp only [Option.bind_some]
    rw [wu' (by omega) (by omega)]
    by_cases c : a % b ≥ b - a % b
    · rw [if_pos c, if_pos (by omega), w64 (by omega) (by omega)]
    · rw [if_neg c, if_neg (by omega)]

theorem over_eq {a b : Int} (a0 : -9223372036854775808 ≤ a) (a1 : a ≤ 9223372036854775807) (b0 : 1 ≤ b) : mapsheetsref11_over.f a b = some (a / b) := by
  have m0 := Int.emod_nonneg a (show b ≠ 0 by omega)
  have m1 := Int.emod_lt_of_pos a (show 0 < b by omega)
  have qa : a / b ≤ 9223372036854775807 := Int.le_trans (Int.ediv_le_ediv (by omega) a1) (Int.ediv_le_self _ (by omega))
  have qb : -9223372036854775808 ≤ a / b := by
    rw [Int.le_ediv_iff_mul_le (by omega)]
    have := Int.mul_le_mul_of_nonneg_left b0 (show (0 : Int) ≤ 9223372036854775808 by omega)
    rw [Int.neg_mul]
    omega
  have tm := tmod_pos (a := a) b0
  have td := tdiv_pos (a := a) b0
  unfold mapsheetsref11_over.f
  rw [if_neg (by omega), tm, td]
  by_cases z : 0 ≤ a ∨ b ∣ a
  · rw [if_pos z, if_pos z, if_neg (by omega), w64 (by omega) (by omega)]
  · have nz : a % b ≠ 0 := fun h => z (Or.inr (Int.dvd_of_emod_eq_zero h))
    rw [if_neg z, if_neg z, if_pos (by omega)]
    by_cases e : a / b = 9223372036854775807
    · exfalso
      have mm := Int.mul_ediv_add_emod a b
      rw [e] at mm
      omega
    · rw [w64 (x := a / b + 1) (by omega) (by omega), w64 (by omega) (by omega)]
      congr 1; omega

theorem rounded_eq {a h : Int} (h0 : 1 ≤ h) (h1 : h ≤ 1152921504606846976) (a0 : -4611686018427387904 ≤ a) (a1 : a ≤ 4611686018427387904) : mapsheetsref11_rounded.f a (2 * h) = some (rnd a (2 * h)) := by
  unfold mapsheetsref11_rounded.f
  rw [Int.tdiv_eq_ediv_of_nonneg (by omega), show 2 * h / 2 = h by omega, w64 (x := h) (by omega) (by omega), w64 (x := a + h) (by omega) (by omega), over_eq (by omega) (by omega) (by omega), rnd_even h0]
  rfl

/-- Arc seconds as radians. -/
def rad (x : Int) : Int := if x < -2147483648 ∨ x > 2147483648 then 0 else rnd (x * 3373259426) 648000

theorem circle_eq (x : Int) : series_circle.f x = some (x % 1296000) := by
  have m0 := Int.emod_nonneg x (show (1296000 : Int) ≠ 0 by omega)
  have m1 := Int.emod_lt_of_pos x (show (0 : Int) < 1296000 by omega)
  have tm := tmod_pos (a := x) (b := 1296000) (by decide)
  unfold series_circle.f
  rw [tm]
  by_cases z : 0 ≤ x ∨ 1296000 ∣ x
  · rw [if_pos z, if_neg (by omega)]
  · have nz : x % 1296000 ≠ 0 := fun h => z (Or.inr (Int.dvd_of_emod_eq_zero h))
    rw [if_neg z, if_pos (by omega), w64 (by omega) (by omega)]
    congr 1; omega
end Go.Proofs.Yteojklacaecmpaa.S
